/- Lemmas. -/
import Derived.Test.YtipaopbmklbmnaaGreatDoorT38
set_option linter.all false
set_option maxRecDepth 100000
set_option maxHeartbeats 0
namespace Go.Proofs.YtipaopbmklbmnaaGreatDoor
section
open Tryz
open Go.RowKit Go.Shelf
attribute [local go_sem] zAE Oper.grows Oper.growUpon
theorem enter_settled1:Enters prog 72:=enters_of func72 (by kernel_rfl) rfl
theorem enter_settled2:Enters prog 73:=enters_of func73 (by kernel_rfl) rfl
theorem contains_i (w:World) (v:Value) (l:List Int) (n:Int) (h:Sl zAM 1 w v l) :
  Calls prog 74 #[v,.int .i64 n] w fun e w'=>e = .returned (.bool (decide (n∈l)))/\Below w.heap.size w w':=by
 refine (zDF w v l n h).mono ?_;rintro e w' ⟨q,rfl,hq,rfl⟩;refine ⟨?_,br_⟩;by_cases hn:n∈l
 ·rw [hq.2 hn,decide_eq_true hn]
 ·cases q with
  | true=>exact absurd (hq.1 rfl) hn
  | false=>rw [decide_eq_false hn]
theorem settled1_built (w:World) : Calls prog 72 #[] w fun e w'=>e = .returned (.int .i64 0)/\Below w.heap.size w w':=by
 go_enter func72,ntmps72;go_wp2;go_ret;exact ⟨rfl,br_⟩
theorem tell_settled (w:World) (x:Fnd) (gn:Nat) (vr vn vm vh vs vz:Value) (b:Built) (S:List Int) (L:List Span) (num:Int) (hF:FoundAt w x.p vr vn vm vh vs vz (.slice x.a x.n x.c) b S L) (hg:zK w gn 0 (.int .i64 num)) :
  Calls prog 73 (#[.agg #[.pointer (some ⟨x.p,0,none⟩),.slice x.a x.n x.c]] ++ #[.pointer (some ⟨gn,0,none⟩)]) w fun e w'=>∃ u xs,e = .returned u/\Sl zAM 1 w' u xs/\(∀ y,y∈xs↔y∈[inC num S])/\0 < xs.length/\xs.length<=2/\Below w.heap.size w w':=by
 have hb1:=zB w (.cells #[.pointer (some ⟨x.p,0,none⟩),.slice x.a x.n x.c] 126);have hfb:=Lay.new w 126 #[.pointer (some ⟨x.p,0,none⟩),.slice x.a x.n x.c];obtain ⟨vhas,hLs,_⟩:=hF.site.box;obtain ⟨az,cz,rfl,_⟩:=zD hF.site.sl;have HS:=zE (hLs.ext hb1);have HFB:=zE hfb;have HB1:=zE hb1;have HG:=zE (zC hb1 hg);have HZ:=zE (zJ zN hb1 hF.site.sl);clear hF hg hb1 hfb hLs;go_enter func73,ntmps73;go_wp2;generalize w.alloc _=w1 at *;have f0:=zH (show zK w1 w.heap.size 0 _ from HFB.out.cell 0 _ rfl);have s6:=zH (show zK w1 x.p 6 _ from HS.out.cell 6 _ rfl);have g0:=zH HG.out;refine zAR (by kernel_rfl) (by kernel_rfl) (no_implicit_lambda% ?_);repeat ((with_reducible refine wpQuiet_step (fun K hK=>?_));go_simp;first | ((with_reducible refine hK _ ?_);clear hK K) | (refine hK _ (no_implicit_lambda% ?_);clear hK K) | (apply Exists.intro;(with_reducible refine ⟨fun _=>?_,hK _ ?_⟩);((go_at_call 74;exact Calls.quiet_later (contains_i _ _ S num (zJ zN (zG _ _) HZ.out))));clear hK K))
 with_reducible refine wpQuiet_nil ?_
 intro _ hw9;obtain ⟨xq,hw8⟩:=hw9;subst hw8;clear f0 s6 g0;have HB:=zE (zA HB1.out (zG w1 xq));generalize w1.later xq=w2 at *;by_cases hm:num∈S
 ·have HM:Hid (inC num S=1):=if_pos hm;rw [decide_eq_true hm];clear hm;go_wp2;go_ret;exact ⟨_,[1],rfl,zRE w2 1 (by unfold I64;decide),fun y=>by simp [HM.out],by simp,by simp,zA HB.out (zB _ _)⟩
 ·have HM:Hid (inC num S=0):=if_neg hm;rw [decide_eq_false hm];clear hm;go_wp2;go_ret;exact ⟨_,[0],rfl,zRE w2 0 (by unfold I64;decide),fun y=>by simp [HM.out],by simp,by simp,zA HB.out (zB _ _)⟩
theorem someC_settled (b:Built) : zJL b 0=setC b:=by
 unfold zJL setC;by_cases h:zF b=0 <;> simp [h]
theorem set_valid {b:Built} (h:setC b=0) : zF b=0:=by
 unfold setC at h;apply Classical.byContradiction;intro hn;rw [if_pos hn] at h;exact hn h
theorem settled_built (w:World) (vr vn vm vh vs:Value) (b:Built) (hA:BuiltArg w vr vn vm vh vs b) (hK:KindsAt w) :
  Calls prog 24 #[.agg #[vr,vn,.int .i64 b.of,vm,vh,vs]] w fun e w'=>∃ u,e = .returned (.tuple #[u,.int .i64 (setC b)])/\Sl AtU8 1 w' u (setL b)/\Below w.heap.size w w':=by
 obtain ⟨i0,hif,iz0,iz1,iz2⟩:=info_parts infoU8;obtain ⟨ar,cr,rfl,_⟩:=zD hA.at_.reg;obtain ⟨an,cn,rfl,hnm⟩:=zD hA.at_.notes;obtain ⟨am,cm,rfl,_⟩:=zD hA.at_.ms;obtain ⟨ah,ch,rfl,_⟩:=zD hA.at_.hs;obtain ⟨as',cs',rfl,_⟩:=zD hA.at_.rs;have hb1:=zB w (.cells #[.slice ar b.ns.reg.length cr,.slice an b.ns.notes.length cn,.int .i64 b.of,.slice am b.ms.length cm,.slice ah b.hs.length ch,.slice as' b.rs.length cs'] 32);have hbox:=Lay.new w 32 #[.slice ar b.ns.reg.length cr,.slice an b.ns.notes.length cn,.int .i64 b.of,.slice am b.ms.length cm,.slice ah b.hs.length ch,.slice as' b.rs.length cs'];have HBW:=zE hb1;have HBOX:=zE hbox;have HA:=zE (hA.ext hb1);have HK:=zE (hK.ext hb1);clear hb1 hbox hA hK;have k0:=HBOX.out.cell 0 _ rfl;have k1:=HBOX.out.cell 1 _ rfl;have k2:=HBOX.out.cell 2 _ rfl;have k3:=HBOX.out.cell 3 _ rfl;have k4:=HBOX.out.cell 4 _ rfl;have k5:=HBOX.out.cell 5 _ rfl;go_enter func24,ntmps24;go_wp2_with fail;clear k0 k1 k2 k3 k4 k5;generalize w.alloc _=w1 at *;refine (zKR w1 _ _ _ _ _ b 72 #[] 0 HA.out HK.out enter_settled1 (fun _ w' _=>settled1_built w')).mono ?_;rintro e w2 ⟨hb2,v,rfl,⟨a,n,q,rfl⟩,hf⟩;rw [someC_settled] at hf ⊢;have HF:=zE hf;have HBOX:=zE (HBOX.out.ext hb2);have HA:=zE (HA.out.ext hb2);have HBW:=zE (zA HBW.out hb2);clear hf hb2;by_cases hc:setC b=0
 case neg =>
  have hc':(setC b != 0)=true:=by simpa using hc
  have hS:Hid (setL b=[]):=by unfold Hid setL;rw [if_neg hc]
  clear hc;go_wp2;go_ret2;exact ⟨_,rfl,by rw [hS.out];exact zIR _ _ _ _ _,HBW.out⟩
 case pos =>
  have hS:Hid (setL b=(zAH b.ns.notes b.ns.notes.length).map (knC (zAQ b))):=by unfold Hid setL;rw [if_pos hc]
  have HC:=zE hc;have hv:=set_valid hc;have hN12:=(zBJ (zS hv).1).2.1;obtain ⟨n1,fs,hFi,h32,hpos⟩:=HF.out hc;have hlA:0 < (zAQ b).length:=by rw [<- hFi.len];exact hpos
  have hcall:Hid (∀ W gn num,Below w2.heap.size w2 W->zK W gn 0 (.int .i64 num)->Calls prog 62 #[.slice a n q,.func (.func 73) #[] #[.pointer (some ⟨gn,0,none⟩)]] W fun e w'=>∃ sp:Span,e = .returned (.agg #[.int .i64 sp.lo,.int .i64 sp.hi])/\sp.lo+sp.hi=knC (zAQ b) num/\Below W.heap.size W w'):=fun W gn num hb hg=>by
   have h:=zPM W _ 73 #[.pointer (some ⟨gn,0,none⟩)] fs (fun i=>(fun S=>[inC num S]) ((zAQ b).getD i [])) (zJ zNW hb (zMP hFi.row)) enter_settled2 hpos h32 (fun i hi w' hb'=>by
    have hi':i < (zAQ b).length:=by rw [<- hFi.len];exact hi
    obtain ⟨vz,L,hFo,hL⟩:=(hFi.at_ i hi hi').found HA.out.at_;have e:(zAQ b).getD i []=(zAQ b)[i]:=by rw [List.getD_eq_getElem?_getD,List.getElem?_eq_getElem hi'];rfl
    simp only [e];exact tell_settled w' fs[i] _ _ _ _ _ _ vz b _ L num (hFo.ext (zA hb hb')) (zC hb' hg))
   rw [hFi.len,zON (fun S=>[inC num S])] at h;refine h.mono ?_;rintro e w' ⟨rfl,hb'⟩;exact ⟨_,rfl,knC_span hlA,hb'⟩
  have HKU:=zE (knC_u8 (zAQ b));have HOL:=zE (opensTo_le b.ns.notes);have HOS:=zE (fun k (hk:k < b.ns.notes.length)=>opensTo_succ' hk);rw [hc];clear hc hv hFi h32 hpos HF hlA;generalize zAQ b=A at *;have k1:=HBOX.out.cell 1 _ rfl;go_wp2;clear k1;go_loopw [6,22] (fun q i wr=>∃ j:Nat,i = .int .i64 j/\j<=b.ns.notes.length/\Hid (wr.ownsRow w2.heap.size 5 1 q (zAH b.ns.notes j).length (((zAH b.ns.notes j).map (knC A)).map (Value.int .u8)))/\Hid (Below w2.heap.size w2 wr)) (fun _ i _=>b.ns.notes.length - (intOf i).toNat)
  case atStart=>exact ⟨0,rfl,by omega,zE (World.ownsRow_nil _ _ _ _),zE (br_)⟩
  case round =>
   obtain ⟨j,rfl,hj,HO,HB8⟩:=hrel;by_cases hlt:j < b.ns.notes.length
   case neg =>
    obtain rfl:j=b.ns.notes.length:=by omega
    go_wp2;go_ret2;refine ⟨_,by rw [HC.out];rfl,?_,zA HBW.out HB8.out⟩;rw [hS.out];refine u8s_of_own (by rw [List.length_map];exact HO.out) (fun y hy=>?_);obtain ⟨z,_,rfl⟩:=List.mem_map.1 hy;exact HKU.out z
   case pos =>
    obtain ⟨g,o,hge,⟨n0,n1,n2,n3,n4,n5,n6,n7,n8,n9⟩,-⟩:=(zY (zJ zAN HB8.out HA.out.at_.notes)).2 j hlt;cases hge;have hos:=zE (HOS.out j hlt);have hol:=HOL.out j;have hkl:(j:Int) < b.ns.notes.length:=by omega
    generalize b.ns.notes[j]=x at *;obtain ⟨num,day,sg,d,l,fr,to,ca,use,ways⟩:=x;simp only at n0 n1 n2 n3 n4 n5 n6 n7 n8 n9 hos;unfold zK at n0 n1 n2 n3 n4 n5 n6 n7 n8 n9;have hba:=zB wr (.cells #[.int .i64 num,.int .i64 day,.int .u8 sg,.int .i64 d,.int .i64 l,.int .i64 fr,.int .i64 to,.int .i64 ca,.bool use,.int .u8 ways] 74);have hnl:=Lay.new wr 74 #[.int .i64 num,.int .i64 day,.int .u8 sg,.int .i64 d,.int .i64 l,.int .i64 fr,.int .i64 to,.int .i64 ca,.bool use,.int .u8 ways];by_cases hs:sg=1
    case neg =>
     have hs':(sg != 1)=true:=by simpa using hs
     have hos2:Hid (zAH b.ns.notes (j+1)=zAH b.ns.notes j):=by unfold Hid;rw [hos.out,if_neg hs,List.append_nil]
     clear hs hos hnl;go_wp2;go_roundw
     ·exact ⟨j+1,by go_num,by omega,by rw [hos2.out];exact zE (zAC hba HO.out),zE (zA HB8.out hba)⟩
     ·simp [intOf];omega
    case pos =>
     subst hs;have hos2:Hid (zAH b.ns.notes (j+1)=zAH b.ns.notes j++[num]):=by unfold Hid;rw [hos.out,if_pos rfl]
     have HBA:=zE (zA HB8.out hba);have hov:=zE (hcall.out _ _ num HBA.out (hnl.cell 0 _ rfl));have HOA:=zE (zAC hba HO.out);have hk8:=HKU.out num;have hkn:Hid (knC A num=knC A num):=rfl;clear hos hnl hba HO HB8;generalize hkv:knC A num=kv at hov hk8;have HKV:=zE hkv;clear hkv hkn;go_wp2_with fail;clear n0 n1 n2 n3 n4 n5 n6 n7 n8 n9;refine hov.out.mono ?_;rintro e w3 ⟨sp,rfl,hsp,hb3⟩;have hb4:=zB w3 (.cells #[.int .i64 sp.lo,.int .i64 sp.hi] 40);have HO4:=zE (zAC (zA hb3 hb4) HOA.out);have HB4:=zE (zA HBA.out (zA hb3 hb4));have hsz4:Hid ((w3.alloc (.cells #[.int .i64 sp.lo,.int .i64 sp.hi] 40)).heap.size=w3.heap.size+1):=World.size_alloc _ _;have hcn:=zE (cell_one_new (w3.alloc (.cells #[.int .i64 sp.lo,.int .i64 sp.hi] 40)) (.int .u8 kv) 5);rw [hsz4.out] at hcn;have hU:=hk8;unfold U8 at hU;have hw1:wrap64 (sp.lo+sp.hi)=kv:=by rw [hsp];exact IntWalk.wrap64_in _ (by omega)
     have hw2:IntKind.i64.wrap (sp.lo+sp.hi)=kv:=by rw [hsp];exact IntWalk.i64_in _ (by omega)
     have hw3:IntKind.u8.wrap kv=kv:=by
      have:kv=kv % 256:=by omega
      simp [IntKind.wrap,IntKind.bits,IntKind.signed];omega
     clear hb3 hb4 hov hsp;go_wp2_with (at_builtin;refine wpList_append_own _ rfl _ _ 70 rfl w2.heap.size 5 i0 (.int .u8 0) 1 1 underlying70 hif iz0 iz1 iz2 rfl (by decide) _ _ _ rfl (HO4.out.alloc _) ⟨w3.heap.size+1,0,none⟩ 1 1 [.int .u8 kv] rfl rfl hcn.out (by simp [Value.oneCell']) (by unfold maxLen;omega) (by omega) (by have:=HB4.out.size;rw [hsz4.out] at this;simp;omega) ?_;intro v' w4 hown' hgrow _);have hb5:=(HB4.out.alloc HB4.out.size (.cells #[.int .u8 kv] 5)).grown hgrow (by have:=HB4.out.size;rw [hsz4.out] at this;simp;omega) (fun k e=>(HO4.out.lt k e).1);go_wp2;go_roundw
     ·exact ⟨j+1,by go_num,by omega,by rw [hos2.out,List.map_append,List.map_append,List.length_append,List.map_singleton,List.map_singleton,HKV.out];exact zE hown',zE hb5⟩
     ·simp [intOf];omega
theorem until_site (w:World) (p:Nat) (vr vn vm vh vs vz:Value) (b:Built) (S:List Int) (k:Nat) (n:Int) (hS:SiteAt w p vr vn vm vh vs vz b S) (hv:zF b=0) (hk:k < b.hs.length) :
  Calls prog 64 #[.pointer (some ⟨p,0,none⟩),.int .i64 k,.int .i64 n] w fun e w'=>e = .returned (.int .i64 (zEL b S k n))/\Below w.heap.size w w':=by
 have hd:b.hs[k].d∈nums b.ns.reg:=zMS (zAW (zBJ (zS hv).1).1) ((zS hv).2.2.2.2.2.2.1 k hk hk).1;have hm12:b.ms.length<=12:=(zS hv).2.2.1;obtain ⟨vhas,hLs,a,cap,rfl,hrow⟩:=hS.box;obtain ⟨am,cm,rfl,_⟩:=zD hS.at_.ms;obtain ⟨ah,ch,rfl,_⟩:=zD hS.at_.hs;obtain ⟨gh,oh,rfl,⟨hh0,-⟩,hhr⟩:=(zY hS.at_.hs).2 k hk;have hd64:I64 b.hs[k].d:=hhr.1;have hkl:(k:Int) < b.hs.length:=by omega
 have HHE:=zE hh0;have HS:=zE hLs;have HR:=zE hrow;have HM:=zE hS.at_.ms;have HD:=zE hd;have HK:Hid (∀ m,zHZ b S k m=if (zZ b S m b.hs[k].d).h=k then (zZ b S m b.hs[k].d).c else 0):=fun m=>by
  unfold zHZ;rw [List.getElem?_eq_getElem hk];rfl
 generalize b.hs[k].d=d at *;have s3:=hLs.cell 3 _ rfl;clear hS hLs hrow hd hh0 hhr;go_enter func64,ntmps64;go_wp2;clear s3;go_loopw [7,16] (fun q i wr=>∃ j:Nat,i = .int .i64 j/\j<=b.ms.length/\q = .int .i64 (zHR b S k n j)/\Hid (Below w.heap.size w wr)) (fun _ i _=>b.ms.length - (intOf i).toNat)
 case atStart=>exact ⟨0,rfl,by omega,rfl,zE (br_)⟩
 case round =>
  obtain ⟨j,rfl,hj,rfl,HB⟩:=hrel;by_cases hlt:j < b.ms.length
  case neg =>
   obtain rfl:j=b.ms.length:=by omega
   go_wp2;go_ret;exact ⟨rfl,HB.out⟩
  case pos =>
   obtain ⟨gm,om,hem,hcm,-⟩:=(zY HM.out).2 j hlt;cases hem;obtain ⟨g,off,mb,n0,rfl,hcp,hM⟩:=HR.out j hlt;have hmi:b.ms[j]? = some b.ms[j]:=List.getElem?_eq_getElem hlt;have hjl:(j:Int) < b.ms.length:=by omega
   have hvis:visF b S j d=some (zQZ (zZ b S b.ms[j] d).c (zZ b S b.ms[j] d).l (zZ b S b.ms[j] d).h (bfAt b S j (zZ b S b.ms[j] d).h)):=by unfold visF;rw [if_pos HD.out,hmi];rfl
   have hlook:∀ xq,(Instr.lookup 200 (.map (some mb)) (.int .i64 d) false).run prog (wr.later xq) = .ok (zQZ (zZ b S b.ms[j] d).c (zZ b S b.ms[j] d).l (zZ b S b.ms[j] d).h (bfAt b S j (zZ b S b.ms[j] d).h)) (wr.later xq):=fun xq=>by
    have h:=zFS underlying200 (Tryz.zeroValue199 (wr.later xq)) (hM.ext (zA HB.out (zG wr xq))) hd64;rw [hvis] at h;exact h
   have hyes:=zE (fun h=>untilTo_yes (b:=b) (S:=S) (k:=k) (n:=n) h hlt);have hno:=zE (fun h=>untilTo_no (b:=b) (S:=S) (k:=k) (n:=n) (i:=j) h);have htk:Hid (zIJ b S k n j=(decide (zCX b S k j < n) && decide (0 < zHZ b S k b.ms[j]))):=by unfold Hid zIJ;rw [hmi];rfl
   rw [HK.out b.ms[j]] at htk;have hbf:Hid ((zZ b S b.ms[j] d).h=k->bfAt b S j (zZ b S b.ms[j] d).h=zCX b S k j):=fun h=>by unfold bfAt;rw [h,if_pos (by omega),Int.toNat_natCast]
   have s7:=zH (zC HB.out (show zK w p 7 _ from HS.out.cell 7 _ rfl));have s4:=zH (zC HB.out (show zK w p 4 _ from HS.out.cell 4 _ rfl));have cp:=zH (zC HB.out hcp);have ce:=zH (zC HB.out HHE.out);have HCM:=zE hcm;unfold zQZ at hlook;clear hmi hvis hM hcp hcm;generalize zZ b S b.ms[j] d=h at *;generalize bfAt b S j h.h=bf at *;generalize b.ms[j]=m at *;go_wp2;refine zM 18 (by kernel_rfl) (by kernel_rfl) ?_;simp only [tk_];iterate 17 (apply gx_;focus (intro vs xq hd;(try simp [hq_] at hd);simp only [pf_];go_simp;exact ⟨br_,rfl⟩))
   refine zL (NewBx wr.heap.size #[.int .i64 0,.int .i64 0,.int .i64 0,.int .i64 0] 199) (zFE _ _ _) ?_ ?_
   ·intro vs xq hd
    (try simp [hq_] at hd)
    simp only [pf_];go_simp;exact ⟨zB _ _,_,rfl,(zG wr xq).size,Lay.new _ _ _⟩
   refine zQ (by simp only [List.length_append,List.length_cons,List.length_nil]) (fun vs xq hd=>?_);simp [zW,zAI,List.range,List.range.loop] at hd;simp only [pf_];obtain ⟨e0,e1,e2,e3,e4,e5,e6,e7,e8,e9,e10,e11,e12,e13,e14,e15,e16,gb,e17,hgb,hLb⟩:=hd;simp only [Nat.zero_add,Nat.reduceAdd] at e0 e1 e2 e3 e4 e5 e6 e7 e8 e9 e10 e11 e12 e13 e14 e15 e16 e17 ⊢;simp only [e0,e1,e2,e3,e4,e5,e6,e7,e8,e9,e10,e11,e12,e13,e14,e15,e16,e17];have hb8:=zA HB.out (zG wr xq);have hgw:w.heap.size<=gb:=Nat.le_trans HB.out.size hgb;clear e0 e1 e2 e3 e4 e5 e6 e7 e8 e9 e10 e11 e12 e13 e14 e15 e16 e17 s7 s4 cp ce hlook hgb;generalize wr.later xq=w8 at *;have q0:=hLb.cell 0 _ rfl;have q1:=hLb.cell 1 _ rfl;have q2:=hLb.cell 2 _ rfl;have q3:=hLb.cell 3 _ rfl;have f0:=hLb.frozen 0;have f1:=hLb.frozen 1;have f2:=hLb.frozen 2;have f3:=hLb.frozen 3;have hl:=hLb.lt;have HB9:=zE (zI (j:=3) (u:=.int .i64 bf) hgw (zI (j:=2) (u:=.int .i64 h.h) hgw (zI (j:=1) (u:=.int .i64 h.l) hgw (zI (j:=0) (u:=.int .i64 h.c) hgw hb8))));have HL9:=zE (zCF (zCF (zCF (zCF hLb 0 (.int .i64 h.c)) 1 (.int .i64 h.l)) 2 (.int .i64 h.h)) 3 (.int .i64 bf));clear hLb hb8;go_step;go_simp;generalize (((w8.setCell _ _).setCell _ _).setCell _ _).setCell _ _=w9 at *;clear q0 q1 q2 q3 f0 f1 f2 f3 hl;have q0:=HL9.out.cell 0 _ rfl;have q2:=HL9.out.cell 2 _ rfl;have q3:=HL9.out.cell 3 _ rfl;have s3:=zC HB9.out (show zK w p 3 _ from HS.out.cell 3 _ rfl);have c1:=zC HB9.out HCM.out;unfold zK at s3 c1;rw [Nat.mul_one] at c1;by_cases hh:h.h=k
   case neg =>
    have hh':(h.h == (k:Int))=false:=by simpa using hh
    have htf:zIJ b S k n j=false:=by rw [htk.out,if_neg hh];simp
    clear hh;have hs:=zE (hno.out htf);clear hyes hno htk hbf htf HK;go_wp2;go_roundw
    ·exact ⟨j+1,by go_num,by omega,by rw [hs.out],HB9⟩
    ·simp [intOf];omega
   case pos =>
    have hh':(h.h == (k:Int))=true:=by simpa using hh
    have hbe:=hbf.out hh;have htt:zIJ b S k n j=(decide (bf < n) && decide (0 < h.c)):=by rw [htk.out,if_pos hh,hbe]
    clear hh hbe;by_cases h1:0 < h.c
    case neg =>
     have htf:zIJ b S k n j=false:=by rw [htt];simp;omega
     clear htt;have hs:=zE (hno.out htf);clear hyes hno htk hbf htf HK;go_wp2;go_roundw
     ·exact ⟨j+1,by go_num,by omega,by rw [hs.out],HB9⟩
     ·simp [intOf];omega
    case pos =>
     by_cases h2:bf < n
     case neg =>
      have htf:zIJ b S k n j=false:=by rw [htt];simp;omega
      clear htt;have hs:=zE (hno.out htf);clear hyes hno htk hbf htf HK;go_wp2;go_roundw
      ·exact ⟨j+1,by go_num,by omega,by rw [hs.out],HB9⟩
      ·simp [intOf];omega
     case pos =>
      have hs:=zE (hyes.out (by rw [htt];simp;omega));clear hyes hno htk hbf htt HK;go_wp2;go_roundw
      ·exact ⟨j+1,by go_num,by omega,by rw [hs.out],HB9⟩
      ·simp [intOf];omega
theorem enter_until1:Enters prog 60:=enters_of func60 (by kernel_rfl) rfl
theorem enter_until2:Enters prog 63:=enters_of func63 (by kernel_rfl) rfl
def hpC (b:Built) (h:Int) : Int:=if inB h 0 ((b.hs.length:Int) - 1) then 0 else 2
theorem until1_built (w:World) (ga gh:Nat) (vh:Value) (b:Built) (h:Int) (hh:Sl zDO 4 w vh b.hs) (ha:zK w ga 4 vh) (hg:zK w gh 0 (.int .i64 h)) (h64:I64 h) :
  Calls prog 60 #[.pointer (some ⟨ga,0,none⟩),.pointer (some ⟨gh,0,none⟩)] w fun e w'=>e = .returned (.int .i64 (hpC b h))/\Below w.heap.size w w':=by
 obtain ⟨ah,ch,rfl,hm⟩:=zD hh;clear hh;unfold zK at ha hg;have hw1:IntKind.i64.wrap ((b.hs.length:Int) - 1)=(b.hs.length:Int) - 1:=IntWalk.i64_in _ (by omega);have hw2:wrap64 ((b.hs.length:Int) - 1)=(b.hs.length:Int) - 1:=IntWalk.wrap64_in _ (by omega);have hb1:=zB w (.cells #[.int .i64 h] 3);go_enter func60,ntmps60;go_wp2_with fail;clear ha hg hw1 hw2;refine (zML _ 0 ((b.hs.length:Int) - 1) h _ ⟨w.heap.size,rfl,zR w #[.int .i64 h] _ 0 _ rfl⟩ h64).mono ?_;rintro e w2 ⟨rfl,hb2⟩;have HB:=zE (zA hb1 hb2);have hc:Hid (hpC b h=if inB h 0 ((b.hs.length:Int) - 1) then 0 else 2):=rfl;clear hb1 hb2;generalize inB h 0 ((b.hs.length:Int) - 1)=q at *;go_wp2_with fail;refine (zNQ w2 q 2).mono ?_;rintro e w3 ⟨rfl,rfl⟩;rw [<- hc.out];go_wp2;go_ret;exact ⟨rfl,HB.out⟩
theorem tell_until (w:World) (x:Fnd) (gh:Nat) (vr vn vm vh vs vz:Value) (b:Built) (S:List Int) (L:List Span) (k:Nat) (hF:FoundAt w x.p vr vn vm vh vs vz (.slice x.a x.n x.c) b S L) (hv:zF b=0) (hL:zJO b S=some L) (hk:k < b.hs.length) (hg:zK w gh 0 (.int .i64 k)) :
  Calls prog 63 (#[.agg #[.pointer (some ⟨x.p,0,none⟩),.slice x.a x.n x.c]] ++ #[.pointer (some ⟨gh,0,none⟩)]) w fun e w'=>∃ u xs,e = .returned u/\Sl zAM 1 w' u xs/\(∀ y,y∈xs↔y∈[zEL b S k (zLY b S k).lo,zEL b S k (zLY b S k).hi])/\0 < xs.length/\xs.length<=2/\Below w.heap.size w w':=by
 obtain ⟨xp,xa,xn,xc⟩:=x;simp only at hF ⊢;obtain ⟨_,hll,hcs⟩:=zFK hv hL;have hkL:k < L.length:=by omega
 have hc:=(hcs k hkL).1;have hcn:zLY b S k=L[k]:=by unfold zLY;rw [hc];rfl
 rw [hcn];obtain ⟨ac,cc,hac,_⟩:=zD hF.cnt;cases hac;obtain ⟨gc,oc,rfl,⟨hlo,hhi⟩,_⟩:=(zY hF.cnt).2 k hkL;have hkl:(k:Int) < L.length:=by omega
 have hb1:=zB w (.cells #[.pointer (some ⟨xp,0,none⟩),.slice (some ⟨gc,oc,none⟩) L.length xc] 126);have hfb:=Lay.new w 126 #[.pointer (some ⟨xp,0,none⟩),.slice (some ⟨gc,oc,none⟩) L.length xc];have HS:=zE (hF.site.ext hb1);have HFB:=zE hfb;have HB1:=zE hb1;have HCC:=zE (And.intro (zC hb1 hlo) (And.intro (zC hb1 hhi) (zC hb1 hg)));have hbd:=zE (fun n=>untilR_bd hv S k n);have HV:=zE hv;clear hF hcs hc hcn hll hlo hhi hg hb1 hfb hv hL;generalize L[k]=sp at *;go_enter func63,ntmps63;go_wp2;generalize w.alloc _=w1 at *;have f0:=zH (show zK w1 w.heap.size 0 _ from HFB.out.cell 0 _ rfl);have f1:=zH (show zK w1 w.heap.size 1 _ from HFB.out.cell 1 _ rfl);have g0:=zH HCC.out.2.2;have l0:=zH HCC.out.1;have l1:=zH HCC.out.2.1;refine zM 21 (by kernel_rfl) (by kernel_rfl) ?_;simp only [tk_];iterate 9 (apply gx_;focus (intro vs xq hd;(try simp [hq_] at hd);simp only [pf_];go_simp;exact ⟨br_,rfl⟩))
 refine zT ?_;apply Exists.intro;refine ⟨fun vs' xq hd=>?_,?_⟩
 ·(try simp [hq_] at hd)
  simp only [pf_];go_simp;refine (until_site (w1.later xq) xp _ _ _ _ _ _ b S k _ (HS.out.ext (zG w1 xq)) HV.out hk).mono ?_;rintro e w9 ⟨rfl,hb9⟩;exact ⟨rfl,hb9⟩
 iterate 9 (apply gx_;focus (intro vs xq hd;(try simp [hq_] at hd);simp only [pf_];go_simp;exact ⟨br_,rfl⟩))
 refine zT ?_;apply Exists.intro;refine ⟨fun vs' xq hd=>?_,?_⟩
 ·(try simp [hq_] at hd)
  simp only [pf_];go_simp;refine (until_site (w1.later xq) xp _ _ _ _ _ _ b S k _ (HS.out.ext (zG w1 xq)) HV.out hk).mono ?_;rintro e w9 ⟨rfl,hb9⟩;exact ⟨rfl,hb9⟩
 refine zL (fun v w'=>Sl zAM 1 w' v [zEL b S k sp.lo,zEL b S k sp.hi]) (fun v w w' hb h=>zJ zN hb h) ?_ ?_
 ·intro vs xq hd
  (try simp [hq_] at hd)
  simp only [pf_];go_simp;have h1:=hbd.out sp.lo;have h2:=hbd.out sp.hi;exact ⟨zB _ _,zNS _ _ _ (by unfold I64;omega) (by unfold I64;omega)⟩
 refine zQ (by simp only [List.length_append,List.length_cons,List.length_nil]) (fun vs' xq hd=>?_);simp [zW,zAI,List.range,List.range.loop] at hd;simp only [pf_];obtain ⟨_,_,_,_,_,_,_,_,_,_,_,_,_,_,_,_,_,_,_,_,e20⟩:=hd;simp only [Nat.zero_add,Nat.reduceAdd] at e20 ⊢;have HBZ:=zE (zA HB1.out (zG w1 xq));have HE:=zE e20;clear e20 f0 f1 g0 l0 l1;generalize vs' 20=v20 at *;go_wp2;go_ret;exact ⟨_,_,rfl,HE.out,fun y=>Iff.rfl,by simp,by simp,HBZ.out⟩
theorem someC_until (b:Built) (h:Int) : zJL b (hpC b h)=untC b h:=by
 unfold zJL untC hpC;by_cases hi:In h 0 ((b.hs.length:Int) - 1)
 ·rw [zGY hi];simp [hi]
 ·rw [zGZ hi];simp [hi]
theorem until_built (w:World) (vr vn vm vh vs:Value) (b:Built) (h:Int) (hA:BuiltArg w vr vn vm vh vs b) (hK:KindsAt w) (h64:I64 h) :
  Calls prog 18 #[.agg #[vr,vn,.int .i64 b.of,vm,vh,vs],.int .i64 h] w fun e w'=>e = .returned (.tuple #[.agg #[.int .i64 (untS b h).lo,.int .i64 (untS b h).hi],.int .i64 (untC b h)])/\Below w.heap.size w w':=by
 obtain ⟨ar,cr,rfl,_⟩:=zD hA.at_.reg;obtain ⟨an,cn,rfl,_⟩:=zD hA.at_.notes;obtain ⟨am,cm,rfl,_⟩:=zD hA.at_.ms;obtain ⟨ah,ch,rfl,_⟩:=zD hA.at_.hs;obtain ⟨as',cs',rfl,_⟩:=zD hA.at_.rs;have hb1:=zB w (.cells #[.slice ar b.ns.reg.length cr,.slice an b.ns.notes.length cn,.int .i64 b.of,.slice am b.ms.length cm,.slice ah b.hs.length ch,.slice as' b.rs.length cs'] 32);have hbox:=Lay.new w 32 #[.slice ar b.ns.reg.length cr,.slice an b.ns.notes.length cn,.int .i64 b.of,.slice am b.ms.length cm,.slice ah b.hs.length ch,.slice as' b.rs.length cs'];have hl1:(w.alloc (.cells #[.slice ar b.ns.reg.length cr,.slice an b.ns.notes.length cn,.int .i64 b.of,.slice am b.ms.length cm,.slice ah b.hs.length ch,.slice as' b.rs.length cs'] 32)).heap.size=w.heap.size+1:=World.size_alloc _ _;generalize hw0:w.alloc (.cells #[.slice ar b.ns.reg.length cr,.slice an b.ns.notes.length cn,.int .i64 b.of,.slice am b.ms.length cm,.slice ah b.hs.length ch,.slice as' b.rs.length cs'] 32)=w0 at hb1 hbox hl1;have hb2:=zB w0 (.cells #[.int .i64 h] 3);have hhb:=Lay.new w0 3 #[.int .i64 h];have hl2:=World.size_alloc w0 (.cells #[.int .i64 h] 3);rw [hl1] at hhb hl2;have hb3:=zB (w0.alloc (.cells #[.int .i64 h] 3)) (.cells #[.int .i64 0,.int .i64 0] 40);have hres:=Lay.new (w0.alloc (.cells #[.int .i64 h] 3)) 40 #[.int .i64 0,.int .i64 0];rw [hl2] at hres;have HBW:=zE (zA hb1 (zA hb2 hb3));have HBOX:=zE ((hbox.ext hb2).ext hb3);have HH:=zE (hhb.ext hb3);have HRES:=zE hres;have HA:=zE (hA.ext HBW.out);have HK:=zE (hK.ext HBW.out);clear hb1 hb2 hb3 hbox hhb hres hl2 hA hK;subst hw0;have k0:=HBOX.out.cell 0 _ rfl;have k1:=HBOX.out.cell 1 _ rfl;have k2:=HBOX.out.cell 2 _ rfl;have k3:=HBOX.out.cell 3 _ rfl;have k4:=HBOX.out.cell 4 _ rfl;have k5:=HBOX.out.cell 5 _ rfl;go_enter func18,ntmps18;go_wp2_with fail;clear k0 k1 k2 k3 k4 k5 hl1;generalize ((w.alloc _).alloc _).alloc _=w5 at *;have hright:zF b=0->∀ w',Below w5.heap.size w5 w'->Calls prog 60 #[.pointer (some ⟨w.heap.size,0,none⟩),.pointer (some ⟨w.heap.size+1,0,none⟩)] w' fun e w''=>e = .returned (.int .i64 (hpC b h))/\Below w'.heap.size w' w'' :=
  fun _ w' hb=>until1_built w' _ _ _ b h (HA.out.ext hb).at_.hs (zC hb (HBOX.out.cell 4 _ rfl)) (zC hb (HH.out.cell 0 _ rfl)) h64
 refine (zKR w5 _ _ _ _ _ b 60 _ (hpC b h) HA.out HK.out enter_until1 hright).mono ?_;clear hright;rintro e w2 ⟨hb2,v,rfl,⟨a,n,q,rfl⟩,hf⟩;rw [someC_until] at hf ⊢;have HF:=zE hf;have HH:=zE (HH.out.ext hb2);have HRES:=zE (HRES.out.ext hb2);have HA:=zE (HA.out.ext hb2);have HBW:=zE (zA HBW.out hb2);clear hf hb2;by_cases hc:untC b h=0
 case neg =>
  have hc':(untC b h != 0)=true:=by simpa using hc
  have hS:Hid (untS b h=⟨0,0⟩):=by unfold Hid untS;rw [if_neg hc]
  have z0:=HRES.out.cell 0 _ rfl;have z1:=HRES.out.cell 1 _ rfl;have zf0:=HRES.out.frozen 0;have zf1:=HRES.out.frozen 1;have zl:=HRES.out.lt;clear hc;go_wp2;refine bodyPost_ret (v:=.tuple #[.agg #[.int .i64 0,.int .i64 0],.int .i64 (untC b h)]) (by simp [results,results18,go_sem,z0,z1,zl]) rfl ?_;exact ⟨by rw [hS.out],zI (by omega) (zI (by omega) HBW.out)⟩
 case pos =>
  have hS:Hid (untS b h=uTo b (zAQ b) h.toNat (zAQ b).length):=by unfold Hid untS;rw [if_pos hc]
  have HC:=zE hc;have hv:zF b=0:=by unfold untC at hc;apply Classical.byContradiction;intro hn;rw [if_pos hn] at hc;exact hn hc
  have hi:In h 0 ((b.hs.length:Int) - 1):=by unfold untC at hc;rw [if_neg (by simp [hv])] at hc;apply Classical.byContradiction;intro hn;rw [if_pos hn] at hc;cases hc
  obtain ⟨k,rfl⟩ : ∃ k:Nat,h=k:=⟨h.toNat,by unfold In at hi;omega⟩;have hk:k < b.hs.length:=by unfold In at hi;omega
  obtain ⟨n1,fs,hFi,h32,hpos⟩:=HF.out hc;have hcall:=zPM w2 _ 63 #[.pointer (some ⟨w.heap.size+1,0,none⟩)] fs (fun i=>(fun S=>[zEL b S k (zLY b S k).lo,zEL b S k (zLY b S k).hi]) ((zAQ b).getD i [])) (zMP hFi.row) enter_until2 hpos h32 (fun i hi w' hb=>by
   have hi':i < (zAQ b).length:=by rw [<- hFi.len];exact hi
   obtain ⟨vz,L,hFo,hL⟩:=(hFi.at_ i hi hi').found HA.out.at_;have e:(zAQ b).getD i []=(zAQ b)[i]:=by rw [List.getD_eq_getElem?_getD,List.getElem?_eq_getElem hi'];rfl
   simp only [e];exact tell_until w' fs[i] _ _ _ _ _ _ vz b _ L k (hFo.ext hb) hv hL hk (zC hb (HH.out.cell 0 _ rfl)))
  rw [hFi.len,zON (fun S=>[zEL b S k (zLY b S k).lo,zEL b S k (zLY b S k).hi])] at hcall;have hU:Hid (zBI ((zAQ b).flatMap fun S=>[zEL b S k (zLY b S k).lo,zEL b S k (zLY b S k).hi])=untS b k):=by unfold Hid;rw [hS.out];unfold uTo;rw [Int.toNat_natCast,List.take_length]
  rw [hU.out] at hcall;rw [hc];obtain ⟨sp,hsp⟩ : ∃ z,untS b k=z:=⟨_,rfl⟩;rw [hsp] at hcall;have HSP:=zE hsp;clear hc hv hi hk hFi h32 hpos HF hS hU hsp;go_wp2_with (go_at_call 62;refine hcall.mono ?_;rintro e w3 ⟨rfl,hb3⟩;have HRES:=zE (HRES.out.ext hb3);have HBW:=zE (zA HBW.out hb3);have z0:=HRES.out.cell 0 _ rfl;have z1:=HRES.out.cell 1 _ rfl;have zf0:=HRES.out.frozen 0;have zf1:=HRES.out.frozen 1;have zl:=HRES.out.lt;clear hcall hb3);refine bodyPost_ret (v:=.tuple #[.agg #[.int .i64 sp.lo,.int .i64 sp.hi],.int .i64 0]) (by simp [results,results18,go_sem,z0,z1,zl]) rfl ?_;exact ⟨by rw [HSP.out,HC.out],zI (by omega) (zI (by omega) HBW.out)⟩
end
section
open Go.RowKit
theorem clone_note (w:World) (v:Value) (xs:List Note) (h:Sl zBL 10 w v xs) (hn:xs.length<=100000) :
  Calls Tryz.prog 96 #[v] w fun e w'=>∃ u,e = .returned u/\New zBL 10 74 w.heap.size w' u xs/\Below w.heap.size w w':=by
 obtain ⟨i0,hi,hz0,hz1,hz2⟩:=info_parts infoNote;have q:=fun (w:World) (a:Option Addr) (n c:Nat)=>Lib.run_eql_slice_nil w _ _ a n c 0 0 Tryz.underlying25
 obtain ⟨a,cap,rfl,_⟩:=zD h;cases a with
 | none =>
   have hx:xs=[]:=by
    cases xs with
    | nil=>rfl
    | cons x xs=>obtain ⟨b,off,hh,_⟩:=(zY h).2 0 (by simp);cases hh
   subst hx;go_enter Tryz.func96,Tryz.ntmps96;go_wp2;go_ret;exact ⟨_,rfl,New.nil _ _ _ _ _,Below.refl _ _⟩
 | some ad =>
   have key:∃ news:List Value,news.length=xs.length*10/\(∀ j u,news[j]? = some u->w.cell? (ad.add j)=some u)/\(∀ u∈news,u.oneCell'=true) /\
     (∀ w' base e v,Below w.heap.size w w'->w'.ownsRow base e 10 v xs.length news->Sl zBL 10 w' v xs):=by
    by_cases hx:xs=[]
    ·subst hx
     refine ⟨[],by simp,fun j u hj=>by simp at hj,fun u hu=>by simp at hu,fun w' base e v _ hown=>?_⟩;rcases hown.2 with ⟨rfl,_⟩ | ⟨g,cap,cur,rfl,_⟩
     ·exact ⟨none,0,rfl,by simp,fun k hk=>by simp at hk⟩
     ·exact ⟨_,cap,rfl,by simp,fun k hk=>by simp at hk⟩
    ·obtain ⟨_,hX⟩:=zY h
     obtain ⟨b,off,hh,_⟩:=hX 0 (List.length_pos_iff.2 hx);cases hh;have hE:∀ k (hk:k < xs.length),zBL w b (off+k*10) xs[k]:=fun k hk=>by
      obtain ⟨b',off',hh,he⟩:=hX k hk;cases hh;exact he
     obtain ⟨news,hl,hc,h1⟩:=zLZ cells_note xs hE;refine ⟨news,hl,fun j u hj=>?_,h1,fun w' base e v hb hown=>zHC copies_note hb hE hl hc hown⟩;rw [Addr.add_lit];exact hc j u hj
   obtain ⟨news,hl,hc,h1,hS⟩:=key;have HS:=Lib.hid hS;have HC:=Lib.hid hc;have H1:=Lib.hid h1;clear h hS hc h1;go_enter Tryz.func96,Tryz.ntmps96;go_wp2_with (at_builtin;refine wpList_append_own _ rfl _ _ 25 rfl w.heap.size 74 i0 (.agg #[.int .i64 0,.int .i64 0,.int .u8 0,.int .i64 0,.int .i64 0,.int .i64 0,.int .i64 0,.int .i64 0,.bool false,.int .u8 0]) 10 72 Tryz.underlying25 hi hz0 hz1 hz2 rfl (by decide) _ _ _ rfl (World.ownsRow_made w #[] 0 (Nat.le_refl _) (Nat.zero_le _) rfl) ad xs.length cap news rfl ?qc1 ?qc2 ?qc3 ?qc4 ?qc5 ?qc6 ?_)
   case qc1=>exact hl
   case qc2=>exact fun j u hj=>Lib.cell?_alloc_some _ (HC.out j u hj)
   case qc3=>exact H1.out
   case qc4=>unfold maxLen;omega
   case qc5=>omega
   case qc6=>simp
   intro v' w1 hown hgrow hnil;have hb:Below w.heap.size w w1:=((Below.refl _ w).alloc (Nat.le_refl _) _).grown hgrow (by simp) (by intro k hk;simp [Value.ownBlock] at hk;omega);have hown2:w1.ownsRow w.heap.size 74 10 v' xs.length news:=by simpa using hown
   clear hown hgrow;go_wp2;go_ret;exact ⟨_,rfl,⟨HS.out _ _ _ _ hb hown2,_,hown2⟩,hb⟩
theorem clone_heap (w:World) (v:Value) (xs:List Heap) (h:Sl zDO 4 w v xs) (hn:xs.length<=100000) :
  Calls Tryz.prog 93 #[v] w fun e w'=>∃ u,e = .returned u/\New zDO 4 42 w.heap.size w' u xs/\Below w.heap.size w w':=by
 obtain ⟨i0,hi,hz0,hz1,hz2⟩:=info_parts infoHeap;have q:=fun (w:World) (a:Option Addr) (n c:Nat)=>Lib.run_eql_slice_nil w _ _ a n c 0 0 Tryz.underlying29
 obtain ⟨a,cap,rfl,_⟩:=zD h;cases a with
 | none =>
   have hx:xs=[]:=by
    cases xs with
    | nil=>rfl
    | cons x xs=>obtain ⟨b,off,hh,_⟩:=(zY h).2 0 (by simp);cases hh
   subst hx;go_enter Tryz.func93,Tryz.ntmps93;go_wp2;go_ret;exact ⟨_,rfl,New.nil _ _ _ _ _,Below.refl _ _⟩
 | some ad =>
   have key:∃ news:List Value,news.length=xs.length*4/\(∀ j u,news[j]? = some u->w.cell? (ad.add j)=some u)/\(∀ u∈news,u.oneCell'=true) /\
     (∀ w' base e v,Below w.heap.size w w'->w'.ownsRow base e 4 v xs.length news->Sl zDO 4 w' v xs):=by
    by_cases hx:xs=[]
    ·subst hx
     refine ⟨[],by simp,fun j u hj=>by simp at hj,fun u hu=>by simp at hu,fun w' base e v _ hown=>?_⟩;rcases hown.2 with ⟨rfl,_⟩ | ⟨g,cap,cur,rfl,_⟩
     ·exact ⟨none,0,rfl,by simp,fun k hk=>by simp at hk⟩
     ·exact ⟨_,cap,rfl,by simp,fun k hk=>by simp at hk⟩
    ·obtain ⟨_,hX⟩:=zY h
     obtain ⟨b,off,hh,_⟩:=hX 0 (List.length_pos_iff.2 hx);cases hh;have hE:∀ k (hk:k < xs.length),zDO w b (off+k*4) xs[k]:=fun k hk=>by
      obtain ⟨b',off',hh,he⟩:=hX k hk;cases hh;exact he
     obtain ⟨news,hl,hc,h1⟩:=zLZ cells_heap xs hE;refine ⟨news,hl,fun j u hj=>?_,h1,fun w' base e v hb hown=>zHC copies_heap hb hE hl hc hown⟩;rw [Addr.add_lit];exact hc j u hj
   obtain ⟨news,hl,hc,h1,hS⟩:=key;have HS:=Lib.hid hS;have HC:=Lib.hid hc;have H1:=Lib.hid h1;clear h hS hc h1;go_enter Tryz.func93,Tryz.ntmps93;go_wp2_with (at_builtin;refine wpList_append_own _ rfl _ _ 29 rfl w.heap.size 42 i0 (.agg #[.int .i64 0,.int .i64 0,.int .i64 0,.int .i64 0]) 4 32 Tryz.underlying29 hi hz0 hz1 hz2 rfl (by decide) _ _ _ rfl (World.ownsRow_made w #[] 0 (Nat.le_refl _) (Nat.zero_le _) rfl) ad xs.length cap news rfl ?qc1 ?qc2 ?qc3 ?qc4 ?qc5 ?qc6 ?_)
   case qc1=>exact hl
   case qc2=>exact fun j u hj=>Lib.cell?_alloc_some _ (HC.out j u hj)
   case qc3=>exact H1.out
   case qc4=>unfold maxLen;omega
   case qc5=>omega
   case qc6=>simp
   intro v' w1 hown hgrow hnil;have hb:Below w.heap.size w w1:=((Below.refl _ w).alloc (Nat.le_refl _) _).grown hgrow (by simp) (by intro k hk;simp [Value.ownBlock] at hk;omega);have hown2:w1.ownsRow w.heap.size 42 4 v' xs.length news:=by simpa using hown
   clear hown hgrow;go_wp2;go_ret;exact ⟨_,rfl,⟨HS.out _ _ _ _ hb hown2,_,hown2⟩,hb⟩
theorem clone_report (w:World) (v:Value) (xs:List Report) (h:Sl zAT 5 w v xs) (hn:xs.length<=100000) :
  Calls Tryz.prog 94 #[v] w fun e w'=>∃ u,e = .returned u/\New zAT 5 49 w.heap.size w' u xs/\Below w.heap.size w w':=by
 obtain ⟨i0,hi,hz0,hz1,hz2⟩:=info_parts zOO;have q:=fun (w:World) (a:Option Addr) (n c:Nat)=>Lib.run_eql_slice_nil w _ _ a n c 0 0 Tryz.underlying30
 obtain ⟨a,cap,rfl,_⟩:=zD h;cases a with
 | none =>
   have hx:xs=[]:=by
    cases xs with
    | nil=>rfl
    | cons x xs=>obtain ⟨b,off,hh,_⟩:=(zY h).2 0 (by simp);cases hh
   subst hx;go_enter Tryz.func94,Tryz.ntmps94;go_wp2;go_ret;exact ⟨_,rfl,New.nil _ _ _ _ _,Below.refl _ _⟩
 | some ad =>
   have key:∃ news:List Value,news.length=xs.length*5/\(∀ j u,news[j]? = some u->w.cell? (ad.add j)=some u)/\(∀ u∈news,u.oneCell'=true) /\
     (∀ w' base e v,Below w.heap.size w w'->w'.ownsRow base e 5 v xs.length news->Sl zAT 5 w' v xs):=by
    by_cases hx:xs=[]
    ·subst hx
     refine ⟨[],by simp,fun j u hj=>by simp at hj,fun u hu=>by simp at hu,fun w' base e v _ hown=>?_⟩;rcases hown.2 with ⟨rfl,_⟩ | ⟨g,cap,cur,rfl,_⟩
     ·exact ⟨none,0,rfl,by simp,fun k hk=>by simp at hk⟩
     ·exact ⟨_,cap,rfl,by simp,fun k hk=>by simp at hk⟩
    ·obtain ⟨_,hX⟩:=zY h
     obtain ⟨b,off,hh,_⟩:=hX 0 (List.length_pos_iff.2 hx);cases hh;have hE:∀ k (hk:k < xs.length),zAT w b (off+k*5) xs[k]:=fun k hk=>by
      obtain ⟨b',off',hh,he⟩:=hX k hk;cases hh;exact he
     obtain ⟨news,hl,hc,h1⟩:=zLZ cells_report xs hE;refine ⟨news,hl,fun j u hj=>?_,h1,fun w' base e v hb hown=>zHC copies_report hb hE hl hc hown⟩;rw [Addr.add_lit];exact hc j u hj
   obtain ⟨news,hl,hc,h1,hS⟩:=key;have HS:=Lib.hid hS;have HC:=Lib.hid hc;have H1:=Lib.hid h1;clear h hS hc h1;go_enter Tryz.func94,Tryz.ntmps94;go_wp2_with (at_builtin;refine wpList_append_own _ rfl _ _ 30 rfl w.heap.size 49 i0 (.agg #[.int .i64 0,.int .i64 0,.int .i64 0,.int .i64 0,.int .u8 0]) 5 40 Tryz.underlying30 hi hz0 hz1 hz2 rfl (by decide) _ _ _ rfl (World.ownsRow_made w #[] 0 (Nat.le_refl _) (Nat.zero_le _) rfl) ad xs.length cap news rfl ?qc1 ?qc2 ?qc3 ?qc4 ?qc5 ?qc6 ?_)
   case qc1=>exact hl
   case qc2=>exact fun j u hj=>Lib.cell?_alloc_some _ (HC.out j u hj)
   case qc3=>exact H1.out
   case qc4=>unfold maxLen;omega
   case qc5=>omega
   case qc6=>simp
   intro v' w1 hown hgrow hnil;have hb:Below w.heap.size w w1:=((Below.refl _ w).alloc (Nat.le_refl _) _).grown hgrow (by simp) (by intro k hk;simp [Value.ownBlock] at hk;omega);have hown2:w1.ownsRow w.heap.size 49 5 v' xs.length news:=by simpa using hown
   clear hown hgrow;go_wp2;go_ret;exact ⟨_,rfl,⟨HS.out _ _ _ _ hb hown2,_,hown2⟩,hb⟩
end
section
open Tryz
open Go.RowKit
def Lo {α:Type} (b0:Nat) (E:World->Nat->Nat->α->Prop) : World->Nat->Nat->α->Prop:=fun w b o x=>b < b0/\E w b o x
theorem zRC {α:Type} {b0:Nat} {E:World->Nat->Nat->α->Prop} (hE:zGG E) : zGG (Lo b0 E):=fun w w' b o x hb h=>⟨h.1,hE _ _ _ _ _ hb h.2⟩
theorem sl_lo {α:Type} {b0 sz:Nat} {E:World->Nat->Nat->α->Prop} {w w':World} {v:Value} {xs:List α} (hE:Local E) (h:Sl (Lo b0 E) sz w v xs) (hs:∀ b,b < b0->w'.heap[b]? = w.heap[b]?) : Sl (Lo b0 E) sz w' v xs :=
 sl_to (fun b o x h=>⟨h.1,hE _ _ _ _ _ (hs b h.1) h.2⟩) h
theorem sl_unlo {α:Type} {b0 sz:Nat} {E:World->Nat->Nat->α->Prop} {w:World} {v:Value} {xs:List α} (h:Sl (Lo b0 E) sz w v xs) : Sl E sz w v xs:=sl_map (fun _ _ _ h=>h.2) h
def zDU (b0:Nat) (w:World) (b o:Nat) (x:Issue) : Prop :=
 (zK w b o (.int .i64 x.d)/\zK w b (o+1) (.int .i64 x.l)/\zK w b (o+2) (.int .u8 x.k))/\(I64 x.d/\I64 x.l/\U8 x.k) /\
 ∃ vi vd,zK w b (o+3) vi/\zK w b (o+4) vd/\Sl (Lo b0 zBV) 2 w vi x.items/\Sl (Lo b0 zGJ) 3 w vd x.dims
theorem copies_issueB (b0:Nat) : zQG (zDU b0) 5:=fun w w' b o b' o' x hb hc ⟨⟨h0,h1,h2⟩,hr,vi,vd,h3,h4,h5,h6⟩ =>
 ⟨⟨hc 0 _ (by omega) h0,hc 1 _ (by omega) h1,hc 2 _ (by omega) h2⟩,hr,vi,vd,hc 3 _ (by omega) h3,hc 4 _ (by omega) h4,zJ (zRC zAX) hb h5,zJ (zRC zBS) hb h6⟩
theorem cells_issueB (b0:Nat) : zHM (zDU b0) 5:=fun w b o x ⟨⟨h0,h1,h2⟩,_,vi,vd,h3,h4,h5,h6⟩ j hj=>by
 obtain ⟨a,cap,rfl,_⟩:=zD h5;obtain ⟨a',cap',rfl,_⟩:=zD h6;match j,hj with
 | 0,_=>exact ⟨_,h0,rfl⟩
 | 1,_=>exact ⟨_,h1,rfl⟩
 | 2,_=>exact ⟨_,h2,rfl⟩
 | 3,_=>exact ⟨_,h3,rfl⟩
 | 4,_=>exact ⟨_,h4,rfl⟩
theorem sl_in {α:Type} {E:World->Nat->Nat->α->Prop} {sz:Nat} {w:World} {v:Value} {xs:List α} (hE:∀ b o x,E w b o x->b < w.heap.size) (h:Sl E sz w v xs) : Sl (Lo w.heap.size E) sz w v xs:=sl_map (fun b o x h=>⟨hE b o x h,h⟩) h
theorem issue_lo {w:World} {v:Value} {R:List Issue} (h:Sl zAY 5 w v R) : Sl (zDU w.heap.size) 5 w v R :=
 sl_map (fun b o x ⟨h1,h2,vi,vd,h3,h4,h5,h6⟩=>⟨h1,h2,vi,vd,h3,h4,sl_in (fun _ _ _ h=>zAD h.1.1) h5,sl_in (fun _ _ _ h=>zAD h.1.1) h6⟩) h
theorem clone_issueB (b0:Nat) (w:World) (v:Value) (xs:List Issue) (h:Sl (zDU b0) 5 w v xs) (hn:xs.length<=100000) :
  Calls prog 95 #[v] w fun e w'=>∃ u,e = .returned u/\New (zDU b0) 5 118 w.heap.size w' u xs/\Below w.heap.size w w':=by
 obtain ⟨i0,hi,hz0,hz1,hz2⟩:=info_parts infoIssue;have q:=fun (w:World) (a:Option Addr) (n c:Nat)=>Lib.run_eql_slice_nil w _ _ a n c 0 0 underlying22
 obtain ⟨a,cap,rfl,_⟩:=zD h;cases a with
 | none =>
   have hx:xs=[]:=by
    cases xs with
    | nil=>rfl
    | cons x xs=>obtain ⟨b,off,hh,_⟩:=(zY h).2 0 (by simp);cases hh
   subst hx;go_enter func95,ntmps95;go_wp2;go_ret;exact ⟨_,rfl,New.nil _ _ _ _ _,br_⟩
 | some ad =>
   have key:∃ news:List Value,news.length=xs.length*5/\(∀ j u,news[j]? = some u->w.cell? (ad.add j)=some u)/\(∀ u∈news,u.oneCell'=true) /\
     (∀ w' base e v,Below w.heap.size w w'->w'.ownsRow base e 5 v xs.length news->Sl (zDU b0) 5 w' v xs):=by
    by_cases hx:xs=[]
    ·subst hx
     refine ⟨[],by simp,fun j u hj=>by simp at hj,fun u hu=>by simp at hu,fun w' base e v _ hown=>?_⟩;rcases hown.2 with ⟨rfl,_⟩ | ⟨g,cap,cur,rfl,_⟩
     ·exact ⟨none,0,rfl,by simp,fun k hk=>by simp at hk⟩
     ·exact ⟨_,cap,rfl,by simp,fun k hk=>by simp at hk⟩
    ·obtain ⟨_,hX⟩:=zY h
     obtain ⟨b,off,hh,_⟩:=hX 0 (List.length_pos_iff.2 hx);cases hh;have hE:∀ k (hk:k < xs.length),zDU b0 w b (off+k*5) xs[k]:=fun k hk=>by
      obtain ⟨b',off',hh,he⟩:=hX k hk;cases hh;exact he
     obtain ⟨news,hl,hc,h1⟩:=zLZ (cells_issueB b0) xs hE;refine ⟨news,hl,fun j u hj=>?_,h1,fun w' base e v hb hown=>zHC (copies_issueB b0) hb hE hl hc hown⟩;rw [Addr.add_lit];exact hc j u hj
   obtain ⟨news,hl,hc,h1,hS⟩:=key;have HS:=zE hS;have HC:=zE hc;have H1:=zE h1;clear h hS hc h1;go_enter func95,ntmps95;go_wp2_with (at_builtin;refine wpList_append_own _ rfl _ _ 22 rfl w.heap.size 118 i0 (.agg #[.int .i64 0,.int .i64 0,.int .u8 0,.slice none 0 0,.slice none 0 0]) 5 72 underlying22 hi hz0 hz1 hz2 rfl (by decide) _ _ _ rfl (World.ownsRow_made w #[] 0 (Nat.le_refl _) (Nat.zero_le _) rfl) ad xs.length cap news rfl ?qc1 ?qc2 ?qc3 ?qc4 ?qc5 ?qc6 ?_)
   case qc1=>exact hl
   case qc2=>exact fun j u hj=>Lib.cell?_alloc_some _ (HC.out j u hj)
   case qc3=>exact H1.out
   case qc4=>unfold maxLen;omega
   case qc5=>omega
   case qc6=>simp
   intro v' w1 hown hgrow hnil;have hb:Below w.heap.size w w1:=((Below.refl _ w).alloc (Nat.le_refl _) _).grown hgrow (by simp) (by intro k hk;simp [Value.ownBlock] at hk;omega);have hown2:w1.ownsRow w.heap.size 118 5 v' xs.length news:=by simpa using hown
   clear hown hgrow;go_wp2;go_ret;exact ⟨_,rfl,⟨HS.out _ _ _ _ hb hown2,_,hown2⟩,hb⟩
theorem zFR {b0:Nat} : zGG (zDU b0):=fun _ _ _ _ _ hb ⟨⟨h1,h2,h3⟩,hr,vi,vd,h4,h5,h6,h7⟩ =>
 ⟨⟨zC hb h1,zC hb h2,zC hb h3⟩,hr,vi,vd,zC hb h4,zC hb h5,zJ (zRC zAX) hb h6,zJ (zRC zBS) hb h7⟩
def zJT (base b0 k:Nat) (w:World) (cs:List Value) (xs:List Issue) : Prop :=
 cs.length=xs.length*5/\∀ j (hj:j < xs.length),(I64 xs[j].d/\I64 xs[j].l/\U8 xs[j].k)/\∃ vi vd,cs[j*5]? = some (.int .i64 xs[j].d)/\cs[j*5+1]? = some (.int .i64 xs[j].l)/\cs[j*5+2]? = some (.int .u8 xs[j].k) /\
  cs[j*5+3]? = some vi/\cs[j*5+4]? = some vd/\(j < k->Sl (Fr base 97 zBV) 2 w vi xs[j].items/\Sl (Fr base 167 zGJ) 3 w vd xs[j].dims) /\
  (k<=j->Sl (Lo b0 zBV) 2 w vi xs[j].items/\Sl (Lo b0 zGJ) 3 w vd xs[j].dims)
theorem issRowK_row {base b0 k:Nat} {w:World} {cs:List Value} {xs:List Issue} (h:zJT base b0 k w cs xs) (hk:xs.length<=k) : IssRow base w cs xs:=by
 obtain ⟨hl,h⟩:=h;refine ⟨hl,fun j hj=>?_⟩;obtain ⟨h0,vi,vd,h1,h2,h3,h4,h5,h6,_⟩:=h j hj;exact ⟨h0,vi,vd,h1,h2,h3,h4,h5,(h6 (by omega)).1,(h6 (by omega)).2⟩
theorem zPV {base b0 k:Nat} {w w':World} {cs:List Value} {xs:List Issue} (hi:zBZ base 97 w w') (hd:zBZ base 167 w w') (hs:∀ b,b < b0->w'.heap[b]? = w.heap[b]?) (h:zJT base b0 k w cs xs) : zJT base b0 k w' cs xs:=by
 obtain ⟨hl,h⟩:=h;refine ⟨hl,fun j hj=>?_⟩;obtain ⟨h0,vi,vd,h1,h2,h3,h4,h5,h6,h7⟩:=h j hj;exact ⟨h0,vi,vd,h1,h2,h3,h4,h5,fun hk=>⟨zCH zDZ hi (h6 hk).1,zCH zHA hd (h6 hk).2⟩,fun hk=>⟨sl_lo zDZ (h7 hk).1 hs,sl_lo zHA (h7 hk).2 hs⟩⟩
theorem issRowK_step {base b0 k:Nat} {w:World} {cs:List Value} {xs:List Issue} (h:zJT base b0 k w cs xs) (hk:k < xs.length) (vi vd:Value) (hi:Sl (Fr base 97 zBV) 2 w vi xs[k].items) (hd:Sl (Fr base 167 zGJ) 3 w vd xs[k].dims) :
  zJT base b0 (k+1) w ((cs.set (k*5+3) vi).set (k*5+4) vd) xs:=by
 obtain ⟨hl,h⟩:=h;refine ⟨by simp [hl],fun j hj=>?_⟩;obtain ⟨h0,vi',vd',h1,h2,h3,h4,h5,h6,h7⟩:=h j hj;by_cases e:j=k
 ·subst e
  have hlt3:j*5+3 < cs.length:=by omega
  have hlt4:j*5+4 < cs.length:=by omega
  refine ⟨h0,vi,vd,?_,?_,?_,?_,?_,fun _=>⟨hi,hd⟩,fun hk=>absurd hk (by omega)⟩
  ·rw [List.getElem?_set_ne (by omega),List.getElem?_set_ne (by omega)];exact h1
  ·rw [List.getElem?_set_ne (by omega),List.getElem?_set_ne (by omega)];exact h2
  ·rw [List.getElem?_set_ne (by omega),List.getElem?_set_ne (by omega)];exact h3
  ·rw [List.getElem?_set_ne (by omega),List.getElem?_set_self hlt3]
  ·rw [List.getElem?_set_self (by rw [List.length_set];exact hlt4)]
 ·refine ⟨h0,vi',vd',?_,?_,?_,?_,?_,fun hk=>h6 (by omega),fun hk=>h7 (by omega)⟩
  ·rw [List.getElem?_set_ne (by omega),List.getElem?_set_ne (by omega)];exact h1
  ·rw [List.getElem?_set_ne (by omega),List.getElem?_set_ne (by omega)];exact h2
  ·rw [List.getElem?_set_ne (by omega),List.getElem?_set_ne (by omega)];exact h3
  ·rw [List.getElem?_set_ne (by omega),List.getElem?_set_ne (by omega)];exact h4
  ·rw [List.getElem?_set_ne (by omega),List.getElem?_set_ne (by omega)];exact h5
theorem issRowK_new {base base' b0:Nat} {w:World} {g cap:Nat} {cs:List Value} {xs:List Issue} (h:Sl (zDU b0) 5 w (.slice (some ⟨g,0,none⟩) xs.length cap) xs) (hown:w.ownsRow base' 118 5 (.slice (some ⟨g,0,none⟩) xs.length cap) xs.length cs) : zJT base b0 0 w cs xs:=by
 have hl:cs.length=xs.length*5:=hown.1;refine ⟨hl,fun j hj=>?_⟩;obtain ⟨b,off,hh,⟨h0,h1,h2⟩,hr,vi,vd,h3,h4,h5,h6⟩:=(zY h).2 j hj;cases hh;simp only [Nat.zero_add] at h0 h1 h2 h3 h4;have key:∀ i u,i < 5->zK w g (j*5+i) u->cs[j*5+i]? = some u:=fun i u hi hc=>by
  have hlt:j*5+i < cs.length:=by omega
  have:=hown.cells (g:=g) rfl (j*5+i) cs[j*5+i] (List.getElem?_eq_getElem hlt);rw [zAZ] at this;unfold zK at hc;rw [hc] at this;rw [List.getElem?_eq_getElem hlt,this]
 exact ⟨hr,vi,vd,key 0 _ (by omega) h0,key 1 _ (by omega) h1,key 2 _ (by omega) h2,key 3 _ (by omega) h3,key 4 _ (by omega) h4,fun hk=>absurd hk (by omega),fun _=>⟨h5,h6⟩⟩
end
end Go.Proofs.YtipaopbmklbmnaaGreatDoor
