/- Lemmas. -/
import Derived.Test.YtipaopbmklbmnaaGreatDoorT49
import Derived.Test.YtipaopbmklbmnaaGreatDoorN01
set_option linter.all false
set_option maxRecDepth 100000
set_option maxHeartbeats 0
namespace Go.Proofs.YtipaopbmklbmnaaGreatDoor
section
open Tryz
open Go.RowKit Go.Shelf
attribute [local go_sem] zAE Oper.grows Oper.growUpon readF lastD
attribute [local simp] Oper.waitsOn Region.binds List.filter_cons List.filter_nil zAI zW
def RetT (w:World) (e:Ending) (w':World) : Prop:=e = .returned (.bool true)/\Below w.heap.size w w'
theorem tmod_le {n:Int} (hn:0<=n) {k:Nat} (hk:0 < k) : ∃ i:Nat,i < k/\n.tmod k=i:=⟨n.toNat % k,Nat.mod_lt _ hk,tmod_is hn hk⟩
theorem MapK.nodup {w:World} {b n:Nat} {K:List Int} {f:Int->Int} (h:MapK w b n K f) : K.Nodup:=by obtain ⟨D,_,h2,_⟩:=h;exact h2
theorem cell_ne {w:World} {b o g j:Nat} {u v x:Value} (h:zK w b o v) (hx:zK w g j x) (hne:v≠x) : zK (w.setCell ⟨g,j,none⟩ u) b o v:=by
 unfold zK at *;rw [World.cell?_setCell_other]
 ·exact h
 ·intro e;cases e;rw [h] at hx;exact hne (Option.some.inj hx)
theorem int_ne {k:IntKind} {n:Int} {a:Option Addr} {l c:Nat} : Value.int k n ≠ .slice a l c:=by intro h;cases h
theorem ints_ne {w:World} {g j l c:Nat} {a:Option Addr} {u v:Value} {xs:List Int} (h:Sl zAM 1 w v xs) (hx:zK w g j (.slice a l c)) : Sl zAM 1 (w.setCell ⟨g,j,none⟩ u) v xs :=
 sl_to (fun _ _ _ h=>⟨cell_ne h.1 hx int_ne,h.2⟩) h
theorem items_ne {w:World} {g j l c:Nat} {a:Option Addr} {u v:Value} {xs:List Item} (h:Sl zBV 2 w v xs) (hx:zK w g j (.slice a l c)) : Sl zBV 2 (w.setCell ⟨g,j,none⟩ u) v xs :=
 sl_to (fun _ _ _ h=>⟨⟨cell_ne h.1.1 hx int_ne,cell_ne h.1.2 hx int_ne⟩,h.2⟩) h
theorem less02 (w:World) (d l d' l':Int) (h:d < d'\/(d=d'/\l < l')) : Calls prog 34 #[.agg #[.int .i64 d,.int .i64 l],.agg #[.int .i64 d',.int .i64 l']] w fun e w'=>e = .returned (.bool true)/\Below w.heap.size w w':=by
 have S:=((Sta.of (p:=fun _=>True) (fun _ _=>trivial) (w:=w)).new #[.int .i64 d,.int .i64 l] 45).new #[.int .i64 d',.int .i64 l'] 45;rw [World.size_alloc] at S;have HB:=zE S.held.below;obtain ⟨l0,⟨q0,q1⟩,-⟩:=(S.get 1 rfl).q2;obtain ⟨l1,⟨p0,p1⟩,-⟩:=(S.get 0 rfl).q2;have H:=zE h;clear S h;go_enter func34,ntmps34;by_cases h1:d < d'
 ·clear H;go_wp2;go_ret;exact ⟨rfl,HB.out⟩
 ·have e1:(d == d')=true:=by have:=H.out;simp;omega
  have h2:l < l':=by have:=H.out;omega
  clear H;go_wp2;go_ret;exact ⟨rfl,HB.out⟩
theorem law_walk (w:World) (vr vn vm vh vs vl:Value) (b:Built) (x y:Int) (by_:List Int) (hB:BuiltAt w vr vn vm vh vs b) (kr:Capd vr b.ns.reg.length) (kn:Capd vn b.ns.notes.length) (kh:Capd vh b.hs.length) (hT:Tables w) (hx:U8 x) (hy:U8 y) (hl:Sl AtU32 1 w vl by_) :
  Calls prog 6 #[.agg #[vr,vn,.int .i64 b.of,vm,vh,vs],.int .u8 x,.int .u8 y,vl] w (RetT w):=by
 obtain ⟨al,cl,rfl,_⟩:=zD hl;obtain ⟨am0,cm0,rfl,_⟩:=zD hB.ms;have S:=(Sta.of (((tables_ever hT).and (fun _ k=>zJ stays_u32 k hl)).and (fun _ k=>hB.ext k))).new #[vr,vn,.int .i64 b.of,.slice am0 b.ms.length cm0,vh,vs] 32;clear hB hT hl kr kn kh;go_enter func6,ntmps6;go_wp2_with fail;generalize hg0:w.heap.size=g0 at *;generalize w.alloc _=w2 at *;refine (alive_law _ S.now.2.2).mono ?_;rintro e w2 ⟨rfl,h⟩;replace S:=S.ext h;clear h;obtain ⟨l0,⟨q0,q1,q2,q3,q4,q5⟩,-⟩:=(S.get 0 rfl).q6;go_wp2_with fail;clear q0 q1 q2 q3 q4 q5 l0;refine (ready_law _ _ _ _ _ _ b S.now.1).mono ?_;intro e w2 hr;rcases hr.both with ⟨⟨hT,hv⟩,rfl,h⟩ | ⟨_,rfl,h⟩
 case inr =>replace S:=S.ext h;clear hr h;go_wp2;go_ret;exact ⟨rfl,S.held.below⟩
 replace S:=S.ext h;have HV:=zE (And.intro hT hv);clear hr h hT hv;obtain ⟨l0,⟨q0,q1,q2,q3,q4,q5⟩,-⟩:=(S.get 0 rfl).q6;by_cases h0:b.ms.length=0
 ·have h0':((b.ms.length:Int) == 0)=true:=by simp [h0]
  go_wp2;go_ret;exact ⟨rfl,S.held.below⟩
 have h0':((b.ms.length:Int) == 0)=false:=by simpa using h0
 go_wp2_with fail;clear q0 q1 q2 q3 q4 q5 l0;refine (exact_law _ _ _ _ _ _ _ b y by_ S.now.1 S.now.2.2 HV.out.1 HV.out.2 hy S.now.2.1).mono ?_;rintro e w3 ⟨ur,un,um,uh,uc,Z,C,rfl,hA,hc,hC,h⟩;obtain ⟨B,ho,hml,hA,hX⟩ : ∃ B:Built,b.of=B.of/\b.ms=B.ms/\BuiltArg w3 ur un um uh (.slice none 0 0) B/\Exact B C:=⟨exactB b Z C,rfl,rfl,hA,exact_of HV.out.2 hC Z⟩;have hmp:0 < B.ms.length:=by rw [<- hml];omega
 rw [ho];obtain ⟨ar,cr,rfl,_⟩:=zD hA.at_.reg;obtain ⟨an,cn,rfl,_⟩:=zD hA.at_.notes;obtain ⟨am,cm,rfl,_⟩:=zD hA.at_.ms;obtain ⟨ah,ch,rfl,_⟩:=zD hA.at_.hs;obtain ⟨ac,cc,rfl,_⟩:=zD hc;have hb3:=zA S.held.below h;have hA3:=zE hA;have S3:=(Sta.of ((tables_ever (tables_ever S.now.2.2 _ h)).and (fun _ k=>hA.ext k))).new #[.slice ar B.ns.reg.length cr,.slice an B.ns.notes.length cn,.int .i64 B.of,.slice am B.ms.length cm,.slice ah B.hs.length ch,.slice none 0 0] 32;have HB3:=zE hb3;have HX:=zE hX;have HG3:Hid (Tables w3):=tables_ever S.now.2.2 _ h;clear S h hA hc hC hX ho hml hb3;obtain ⟨i,hi,hix⟩:=tmod_le hx.1 hmp;obtain ⟨bm,om,rfl,c0,_⟩:=(zY S3.now.1.at_.ms).2 i hi;have hm:=List.getElem_mem hi;generalize B.ms[i]=m at *;have HM:=zE hm;have hx2:=hx.2;have hx1:=hx.1;rw [Nat.mul_one] at c0;unfold zK at c0;obtain ⟨l0,⟨q0,q1,q2,q3,q4,q5⟩,-⟩:=(S3.get 0 rfl).q6;clear hm;go_wp2;obtain ⟨w1,w3'⟩:=wrap2 x (by omega);have hne:B.ms≠[]:=fun e=>by rw [e] at hi;simp at hi
 generalize hgx:w3.heap.size=gx at *;generalize w3.alloc _=w4 at *;go_region;have hvn:=(zS HX.out.valid).1;have HNE:=zE (HX.out.needs HM.out);have HASK:=zE (HX.out.ask HM.out);have HR:=zE (zBJ hvn);have HLT:=zE (zNM hvn [] m);have HLL:=zE (fun d h=>letter_last hvn [] m (d:=d) h);have h60:=zE (zAW (zBJ hvn).1).1;have S:=S3.ext (zO w4);clear q0 q1 q2 q3 q4 q5 l0 S3 c0 hi hix w1 w3' hne hmp hvn hA;generalize w4.drew=w5 at *;obtain ⟨l0,⟨q0,q1,q2,q3,q4,q5⟩,-⟩:=(S.get 0 rfl).q6;go_wp2_with fail;clear q0 q1 q2 q3 q4 q5 l0;refine (lettersOf_note _ _ _ _ B.ns.reg B.ns.notes [] m S.now.1.notes S.now.1.looks (zCY _ _ _) (zS HX.out.valid).1 ((HX.out.isT []).2 rfl) (valid_ms HX.out.valid HM.out)).mono ?_;rintro e w6 ⟨u,rfl,hu,h⟩;obtain ⟨au,cu,rfl,_⟩:=zD hu;simp only [List.length_map] at hu ⊢;replace S:=(S.ext h).and (fun _ k=>zJ zN k hu);clear hu h;obtain ⟨l0,⟨q0,q1,q2,q3,q4,q5⟩,-⟩:=(S.get 0 rfl).q6;go_wp2_with fail;clear q0 q1 q2 q3 q4 q5 l0;refine (explode_sheet _ _ _ B.ns.reg (zAA [] m B.ns.notes) B.of S.now.2.1.notes.reg S.now.1 HR.out.1 HLT.out (zQS HX.out.valid)).mono ?_;rintro e w7 ⟨u,rfl,hu,h⟩;replace S:=(S.ext h).and (fun _ k=>zJ zAX k hu);obtain ⟨ap,cp,rfl,_⟩:=zD hu;clear hu h;obtain ⟨l0,⟨q0,q1,q2,q3,q4,q5⟩,-⟩:=(S.get 0 rfl).q6;go_wp2_with fail;clear q0 q1 q2 q3 q4 q5 l0;refine (zLT _ _ _ _ _ _ B m S.now.2.2.1 S.now.2.2.2.2.2).mono ?_;rintro e w8 ⟨u,rfl,hu,h⟩;rw [HASK.out];replace S:=(S.ext h).and (fun _ k=>zJ zIK k hu);obtain ⟨ap2,cp2,rfl,_⟩:=zD hu;clear hu h;obtain ⟨l0,⟨q0,q1,q2,q3,q4,q5⟩,-⟩:=(S.get 0 rfl).q6;go_wp2_with fail;clear q0 q1 q2 q3 q4 q5 l0;refine (letters02 _ _ _ B.ns.reg (zAA [] m B.ns.notes) S.now.2.2.2.1.at_.reg S.now.2.2.1 (by have:=h60.out;unfold In at this;omega) HLL.out).mono ?_;rintro e w9 ⟨rfl,h⟩;replace S:=S.ext h;clear h;have hmm:=@run_makeMap prog;have HPM:=zE (fun p (hp:p∈zIL B.ns.reg (zAA [] m B.ns.notes) B.of)=>((pieces_mem p).1 hp).1);have HS:=zE S;generalize hL:zBA B m=L at *;generalize hP:zIL B.ns.reg (zAA [] m B.ns.notes) B.of=P at *;have HLP:=zE (And.intro hL hP);clear hL hP S;go_wp2;have HM0:=zE (mapK_made w9 (sumD (L.take 0)));have HB0:=zE (zB w9 (.map #[] 0));generalize hmb:w9.heap.size=mb at *;generalize w9.alloc _=wM at *;clear hmm;go_loopw [107] (fun q wr=>∃ (j n:Nat) (K:List Int),q = .int .i64 j/\j<=L.length/\n<=j/\Hid (MapK wr mb n K (sumD (L.take j)))/\Hid (KeyIn L j K)/\Hid (Below mb w9 wr)) (fun q _=>L.length - (intOf q).toNat)
 case atStart=>exact ⟨0,0,[],rfl,by omega,Nat.le_refl _,HM0,fun x=>by simp,HB0⟩
 case round =>
  clear HM0 HB0;obtain ⟨j,n,K,rfl,hj,hn,HK,HI,HB⟩:=hrel;have S:=HS.out.ext (by rw [hmb];exact HB.out);by_cases hlt:j < L.length
  case pos =>
   obtain ⟨bl,ol,rfl,⟨c0,c1,c2,c3⟩,hn64⟩:=(zY S.now.1).2 j hlt;have hone:=HNE.out.one _ (List.getElem_mem hlt);have hbig:=HNE.out.all _ (List.getElem_mem hlt);have hcase:(∃ (p:Nat) (d l:Int),((j:Int) > 0/\0 < j)/\(IntKind.i64.wrap ((j:Int) - 1)=p/\wrap64 ((j:Int) - 1)=p)/\(p:Int) < L.length/\(zK wr bl (ol+p*4) (.int .i64 d)/\zK wr bl (ol+p*4+1) (.int .i64 l))/\Hid (d < L[j].d\/(d=L[j].d/\l < L[j].l)))\/(¬ ((j:Int) > 0)/\¬ (0 < j)):=by
    by_cases h0:0 < j
    ·obtain ⟨b',o',e,⟨d0,d1,_⟩,_⟩:=(zY S.now.1).2 (j - 1) (by omega)
     cases e;obtain ⟨e1,e2⟩:=wrap2 ((j:Int) - 1) (by omega);exact .inl ⟨j - 1,_,_,⟨by omega,h0⟩,⟨by rw [e1];omega,by rw [e2];omega⟩,by omega,⟨d0,d1⟩,List.pairwise_iff_getElem.1 HNE.out.rise (j - 1) j (by omega) hlt (by omega)⟩
    ·exact .inr ⟨by omega,h0⟩
   have HT:=zE (fun x=>sumD_take hlt x);have HLE:=zE (fun k x=>sumD_le (fun y hy=>(HNE.out.one y hy).2) k x);have HKI:=zE (keyIn_put HI.out hlt);have HNO:=zE (fun x hx=>keyIn_no HI.out (x:=x) hx);generalize L[j]=u at *;obtain ⟨ud,ul,uo,uh⟩:=u;simp only at *;obtain ⟨he,h1⟩:=hone;subst he;have L1:=(HeldB.nil wr).new #[.int .i64 ud,.int .i64 ul,.int .i64 uo,.int .i64 uo] 94;have HL1:=zE (L1.get 0 rfl);have HB1:=zE (HB.out.trans (L1.below.mono (Nat.le_of_lt HK.out.lt)));have HK1:=zE (HK.out.ext L1.below);unfold zK at c0 c1 c2 c3;have hLb:=L1.below;have HN64:=zE (And.intro hn64 (And.intro h1 hbig.2));have j0:=zH (show zK _ _ 0 (.int .i64 ud) from HL1.out.cell 0 _ rfl);have j1:=zH (show zK _ _ 1 (.int .i64 ul) from HL1.out.cell 1 _ rfl);have j2:=zH (show zK _ _ 2 (.int .i64 uo) from HL1.out.cell 2 _ rfl);have j3:=zH (show zK _ _ 3 (.int .i64 uo) from HL1.out.cell 3 _ rfl);have t1:¬ (uo < 1):=by omega
   clear S L1 HB HK HI hn64 h1 hbig;rcases hcase with ⟨p,d,l,⟨hj0,hj1⟩,⟨e1,e2⟩,hp,⟨d0,d1⟩,HLS⟩ | ⟨hj0,hj1⟩
   all_goals
    (try have d0:=zH (zC hLb d0))
    (try have d1:=zH (zC hLb d1))
    go_upto_region 17 with fail
    clear c0 c1 c2 c3;generalize wr.heap.size=gy at *;generalize wr.alloc _=wA at *;refine zAR (by kernel_rfl) (by kernel_rfl) (no_implicit_lambda% ?_);repeat ((with_reducible refine wpQuiet_step (fun K hK=>?_));go_simp;first | ((with_reducible refine hK _ ?_);clear hK K) | (refine hK _ (no_implicit_lambda% ?_);clear hK K) | (apply Exists.intro;(with_reducible refine ⟨fun _=>?_,hK _ ?_⟩);((go_at_call 34;exact Calls.quiet_later (less02 _ _ _ _ _ HLS.out)));clear hK K))
    with_reducible refine wpQuiet_nil ?_
    intro _ hw9;obtain ⟨xq,hw8⟩:=hw9;subst hw8;have HKz:=HK1.out.ext (zG wA xq);have HLz:=zE (HL1.out.ext (zG wA xq));have HBz:=zE (HB1.out.trans ((zG wA xq).mono (Nat.le_of_lt HK1.out.lt)));clear j0 j1 j2 j3 HK1 HL1 HB1 hLb;generalize wA.later xq=wz at *;obtain ⟨lb,q0,q1,q2,q3⟩:=HLz.out.q4;have hle:=HLE.out (j+1) ud;rw [HT.out ud,if_pos rfl] at hle;have hle0:=HLE.out j ud;have hbg:=HN64.out.2.2;obtain ⟨v1,v2⟩:=wrap2 (sumD (L.take j) ud+uo) (by omega);have hlook:=mapK_look HKz HN64.out.1.1 (HNO.out ud);obtain ⟨w7,hr7,hM7,hg7⟩:=mapK_put HKz (c:=sumD (L.take j) ud+uo) HN64.out.1.1 ⟨by omega,by omega⟩ (by unfold maxLen;omega) HT.out;have HB7:=zE (HBz.out.grown hg7 (Nat.le_of_lt HKz.lt) (fun q e=>by cases e;exact Nat.le_refl _));have HM7:=zE hM7;clear hle hle0 hbg hM7 hg7 HKz HBz;go_wp2;exact ⟨⟨j+1,n+1,_,by go_num,by omega,by omega,HM7,HKI.out,HB7⟩,by simp [intOf];omega⟩
  case neg =>
   obtain rfl:j=L.length:=by omega
   have HO:=zE (keyOut_of P HI.out);have HB2:=zE HB.out;have HK2:Hid (MapK wr mb n K (sumD L)):=by have:=HK.out;rw [List.take_length] at this;exact this
   clear HK HI HB S;generalize wr=wN at *;go_wp2;go_loopw [153] (fun q wr=>∃ (i:Nat) (K:List Int),q = .int .i64 i/\i<=P.length/\Hid (MapK wr mb n K (sumD L))/\Hid (KeyOut L P i K)/\Hid (Below mb w9 wr)) (fun q _=>P.length - (intOf q).toNat)
   case atStart=>exact ⟨0,K,rfl,by omega,HK2,HO,HB2⟩
   case round =>
    clear HK2 HO HB2;obtain ⟨i,K,rfl,hi,HK,HO,HB⟩:=hrel;have S:=HS.out.ext (by rw [hmb];exact HB.out);by_cases hlt:i < P.length
    case pos =>obtain ⟨bp,op,rfl,⟨c0,c1⟩,hn64⟩:=(zY S.now.2.1).2 i hlt;have hsum:=HNE.out.sum _ (List.getElem_mem hlt);have hnot:=HNE.out.not hlt HO.out;have hdel:=keyOut_del HO.out HK.out.nodup hlt;generalize P[i]=u at *;obtain ⟨ud,uc⟩:=u;simp only at *;have L1:=(HeldB.nil wr).new #[.int .i64 ud,.int .i64 uc] 97;have HL1:=zE (L1.get 0 rfl);have HB1:=zE (HB.out.trans (L1.below.mono (Nat.le_of_lt HK.out.lt)));have hK1:=HK.out.ext L1.below;have hlook:=mapK_look hK1 hn64.1 hnot;rw [hsum] at hlook;obtain ⟨w7,hr7,hM7,hg7⟩:=mapK_del hK1 hn64.1 0;have HB7:=zE (HB1.out.grown hg7 (Nat.le_of_lt hK1.lt) (fun q e=>by cases e;exact Nat.le_refl _));have HM7:=zE hM7;have HD:=zE hdel;obtain ⟨lb,⟨q0,q1⟩,-⟩:=HL1.out.q2;unfold zK at c0 c1;clear S L1 HB HK HO hsum hnot hdel hM7 hg7 hK1;go_wp2;exact ⟨⟨i+1,_,by go_num,by omega,HM7,HD,HB7⟩,by simp [intOf];omega⟩
    case neg =>
     obtain rfl:i=P.length:=by omega
     obtain rfl:=HNE.out.none HO.out;have hlen:∀ ty,(Builtin.len_ #[92] ty #[.map (some mb)]).run prog wr = .ok (.int .i64 0) wr:=mapK_len HK.out;have LB:=S.get 0 rfl;have hbx:=zI (j:=4) (u:=.slice none 0 0) (show w3.heap.size<=gx from Nat.le_of_eq hgx) S.held.below;have HBS:=zE (zA HB3.out hbx);have hA5:=hA3.out.ext hbx;have hA6:BuiltArg _ _ _ _ (.slice none 0 0) _ B.heapless :=
      ⟨hA5.notes,⟨hA5.at_.reg,hA5.at_.notes,hA5.at_.ms,zCY _ _ _,hA5.at_.rs,hA5.at_.of⟩,⟨none,0,rfl,Nat.le_refl _⟩,hA5.looks⟩
     have S5:Sta _ _ [(gx,#[.slice ar B.ns.reg.length cr,.slice an B.ns.notes.length cn,.int .i64 B.of,.slice (some ⟨bm,om,none⟩) B.ms.length cm,.slice none 0 0,.slice none 0 0],32)] _ :=
      ⟨⟨br_,fun y hy=>by
        obtain rfl:=List.mem_singleton.1 hy;exact lay_set LB 4 (.slice none 0 0)⟩,(((tables_ever (tables_ever HG3.out _ hbx)).and (fun _ k=>hA6.ext k)).and (fun _ k=>zJ zN k (ints_ne S.now.2.2.1 (LB.cell 4 _ rfl)))).and (fun _ k=>zJ zAX k (items_ne S.now.2.1 (LB.cell 4 _ rfl)))⟩
     have HS5:=zE S5;have HX5:=zE HX.out.heapless;have hown:zBA B.heapless m=P.map fun p=>⟨p.d,zAA [] m B.ns.notes p.d,p.c,p.c⟩:=by rw [<- HLP.out.2];exact HX5.out.own rfl HM.out
     have HOWN:=zE hown;have HASK5:Hid (zBK B.heapless m=0):=HX5.out.ask HM.out;obtain ⟨l0,⟨q0,q1,q2,q3,q4,q5⟩,f0,f1,f2,f3,f4,f5⟩:=LB.q6;clear S S5 HK HO HB hbx hA5 hA6 LB hown;go_upto_region 31 with fail
     clear q0 q1 q2 q3 q4 q5 l0 f0 f1 f2 f3 f4 f5 hlen;generalize wr.setCell _ _=wS at *;have S:=HS5.out;clear HS5;obtain ⟨l0,⟨q0,q1,q2,q3,q4,q5⟩,-⟩:=(S.get 0 rfl).q6;go_wp2_with fail;clear q0 q1 q2 q3 q4 q5 l0;refine (zLT _ _ _ _ _ _ B.heapless m S.now.2.2.1 S.now.2.2.2.2.2).mono ?_;rintro e wT ⟨u,rfl,hu,h⟩;rw [HASK5.out];rw [HOWN.out] at hu;obtain ⟨a6,c6,rfl,_⟩:=zD hu;simp only [List.length_map];have HBT:=zE (zA HBS.out h);replace S:=(S.ext h).and (fun _ k=>zJ zIK k hu);have HS6:Hid (Sta wT wT _ _):=⟨⟨br_,S.held.held⟩,S.ever⟩;clear h hu S HBS;go_wp2;go_loopw [189] (fun q wr=>∃ i:Nat,q = .int .i64 i/\i<=P.length/\Hid (Below wT.heap.size wT wr)) (fun q _=>P.length - (intOf q).toNat)
     case atStart=>exact ⟨0,rfl,by omega,br_⟩
     case round =>
      obtain ⟨i,rfl,hi,HB⟩:=hrel;have S:=HS6.out.ext HB.out;by_cases hlt:i < P.length
      case neg =>have HBE:=zE (zA HBT.out HB.out);clear S HB;go_wp2;go_ret;exact ⟨rfl,HBE.out⟩
      case pos =>
       obtain ⟨bp2,op2,e,⟨c0,c1⟩,hn64⟩:=(zY S.now.2.1).2 i hlt;cases e;have hltH:i < (P.map fun p=>(⟨p.d,zAA [] m B.ns.notes p.d,p.c,p.c⟩ : Hold)).length:=by rw [List.length_map];exact hlt
       obtain ⟨bq,oq,rfl,⟨h0,h1,h2,h3⟩,-⟩:=(zY S.now.1).2 i hltH;rw [List.getElem_map] at h0 h1 h2 h3;have hdn:=HPM.out _ (List.getElem_mem hlt);generalize P[i]=u at *;obtain ⟨ud,uc⟩:=u;simp only at *;have hix:(nums B.ns.reg).idxOf ud < ((nums B.ns.reg).map (zAA [] m B.ns.notes)).length:=by rw [List.length_map];exact List.idxOf_lt_length_of_mem hdn
       have hix2:((nums B.ns.reg).idxOf ud:Int) < (nums B.ns.reg).length:=by have:=List.idxOf_lt_length_of_mem hdn;omega
       obtain ⟨bl2,ol2,rfl,hcl,-⟩:=(zY S.now.2.2.1).2 _ hix;have hval:((nums B.ns.reg).map (zAA [] m B.ns.notes))[(nums B.ns.reg).idxOf ud]=zAA [] m B.ns.notes ud:=by rw [List.getElem_map];congr 1;exact List.getElem_idxOf _
       rw [hval,Nat.mul_one] at hcl;generalize zAA [] m B.ns.notes ud=ul at *;have HDN:=zE hdn;have hba:=zB wr (.cells #[.int .i64 ud,.int .i64 uc] 97);have HCL:=zE (zC hba hcl);have HH:=zE (And.intro (zC hba h0) (And.intro (zC hba h1) (And.intro (zC hba h2) (zC hba h3))));have HBW:=zE (zA HB.out hba);unfold zK at c0 c1;have S1:=S.new #[.int .i64 ud,.int .i64 uc] 97;clear S hval hdn hcl h0 h1 h2 h3 hix hltH hba HB;go_upto_region 37 with fail
       clear c0 c1;generalize wr.heap.size=gy at *;generalize wr.alloc _=wA at *;obtain ⟨k0,k1,k2,k3,k4,k5⟩:=(S1.get 1 rfl).l6;have j0:=zH (show zK wA gy 0 (.int .i64 ud) from (S1.get 0 rfl).cell 0 _ rfl);have c0:=zH HCL.out;have HREG:=zE (fun xq=>((S1.ext (zG wA xq)).now.2.2.2.1.at_.reg));refine zM 10 (by kernel_rfl) (by kernel_rfl) ?_;simp only [List.append_eq,List.cons_append,List.nil_append,List.take_succ_cons,List.take_zero];iterate 4 (apply fx_ 221 (by kernel_rfl) rfl;focus (intro rq vs xq hr hc hf hd;(try simp at hd);go_simp;exact ⟨br_,rfl⟩))
       refine fs_ 221 (by kernel_rfl) rfl (fun v w'=>Sl zAM 1 w' v (nums B.ns.reg)) (fun v w w' hb h=>zJ zN hb h) ?_ ?_
       ·intro rq vs xq hr hc hf hd
        (try simp at hd)
        go_simp;refine (numbers02 _ _ B.ns.reg (HREG.out xq) (by have:=h60.out;unfold In at this;omega)).mono ?_;rintro e w9 ⟨u,rfl,hu,h⟩;exact ⟨u,rfl,h,hu⟩
       iterate 2 (apply fx_ 221 (by kernel_rfl) rfl;focus (intro rq vs xq hr hc hf hd;(try simp at hd);go_simp;exact ⟨br_,rfl⟩))
       refine fs_ 221 (by kernel_rfl) rfl (fun v _=>v = .int .i64 ((nums B.ns.reg).idxOf ud:Nat)) (fun v w w' hb h=>h) ?_ ?_
       ·intro rq vs xq hr hc hf hd
        (try simp at hd)
        go_simp;exact index02_in _ _ (nums B.ns.reg) ud hd.1 HDN.out
       iterate 2 (apply fx_ 221 (by kernel_rfl) rfl;focus (intro rq vs xq hr hc hf hd;(try simp at hd);go_simp;exact ⟨br_,rfl⟩))
       refine zQ (by simp only [List.length_append,List.length_cons,List.length_nil]) (fun vs xq hd=>?_);simp [zW,zAI,List.range,List.range.loop] at hd;simp only [zAB,Act.put,List.setIfInBounds_toArray,List.set_cons_succ,List.set_cons_zero,List.drop_succ_cons,List.drop_zero];obtain ⟨e0,e1,e2,e3,e4,e5,e6,e7,e8,e9⟩:=hd;simp only [Nat.zero_add,Nat.reduceAdd] at e0 e1 e2 e3 e4 e5 e6 e7 e8 e9 ⊢;simp only [e0,e1,e2,e3,e5,e6,e7,e8,e9];have hlb:=zG wA xq;have HBV:=zE (zA HBW.out hlb);have i0:=zH (show zK (wA.later xq) gy 0 (.int .i64 ud) from (S1.get 0 rfl).ext hlb |>.cell 0 _ rfl);have i1:=zH (show zK (wA.later xq) gy 1 (.int .i64 uc) from (S1.get 0 rfl).ext hlb |>.cell 1 _ rfl);have h0:=zH (zC hlb HH.out.1);have h1:=zH (zC hlb HH.out.2.1);have h2:=zH (zC hlb HH.out.2.2.1);have h3:=zH (zC hlb HH.out.2.2.2);clear e0 e1 e2 e3 e4 e5 e6 e7 e8 e9 k0 k1 k2 k3 k4 k5 j0 c0 hlb S1 HBW HCL HREG HH;generalize wA.later xq=wB at *;go_upto_region 38 with fail
       refine zAR (by kernel_rfl) (by kernel_rfl) (no_implicit_lambda% ?_);repeat ((with_reducible refine wpQuiet_step (fun K hK=>?_));go_simp;first | ((with_reducible refine hK _ ?_);clear hK K) | (refine hK _ (no_implicit_lambda% ?_);clear hK K) | (apply Exists.intro;(with_reducible refine ⟨fun _=>?_,hK _ ?_⟩);(first | (go_at_call 21;exact Calls.quiet_later (zIM _ _ _)) | (go_at_call 29;exact Calls.quiet_later (zHQ _ _ _)));clear hK K))
       with_reducible refine wpQuiet_nil ?_
       intro _ hw9;obtain ⟨xq,hw8⟩:=hw9;subst hw8;have HBU:=zE (zA HBV.out (zG wB xq));clear i0 i1 h0 h1 h2 h3 HBV;generalize wB.later xq=wC at *;go_wp2;exact ⟨⟨i+1,by go_num,by omega,HBU⟩,by simp [intOf];omega⟩
end
end Go.Proofs.YtipaopbmklbmnaaGreatDoor
