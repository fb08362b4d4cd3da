/- Lemmas. -/
import Derived.Deep.DeepCutAuto
import Derived.Test.YtipaopbmklbmnaaGreatDoorT49
import Derived.Test.YtipaopbmklbmnaaGreatDoorT50
import Derived.Test.YtipaopbmklbmnaaGreatDoorE01
set_option linter.all false
set_option maxRecDepth 100000
set_option maxHeartbeats 0
namespace Go.Proofs.YtipaopbmklbmnaaGreatDoor
section
open Tryz
open Go.RowKit Go.Shelf
attribute [local go_sem] zAE Oper.grows Oper.growUpon readF lastD
attribute [local simp] Oper.waitsOn Region.binds List.filter_cons List.filter_nil zAI zW
def RetT (w:World) (e:Ending) (w':World) : Prop:=e = .returned (.bool true)/\Below w.heap.size w w'
theorem part_num {b:Built} (hv:zF b=0) {d l:Int} (h:zFO b.ns.reg d l) : d∈nums b.ns.reg:=by
 obtain ⟨x,hx,_⟩:=h;obtain ⟨k,hk,rfl,e1,_⟩:=find_at hx;rw [<- e1];exact zOE _ (valid_ord hv) k hk
theorem part_64 {b:Built} (hv:zF b=0) {d l:Int} (h:zFO b.ns.reg d l) : I64 d:=by
 obtain ⟨y,hy,_⟩:=h;obtain ⟨q,hq,rfl,e1,_⟩:=find_at hy;have:=(((zAW (zBJ (zS hv).1).1).2.1 q hq).1 hq).1.1;rw [e1] at this;unfold In at this;unfold I64;omega
theorem mem_step {L:List Int} {n v:Int} {f:Bool} (h:f=decide (v∈L)) : (f || (n == v))=decide (v∈L++[n]):=by
 subst h;by_cases e:v∈L
 ·simp [e]
 ·simp only [e,decide_false,Bool.false_or,List.mem_append,false_or,List.mem_singleton];exact (decide_eq_decide.2 eq_comm:decide (n=v)=decide (v=n))
structure CntTo (b:Built) (k:Nat) (C:List Int) : Prop where
 len:C.length=k
 has:∀ j,j < k->(h:j < b.hs.length)->b.hs[j].lo<=C.getD j 0/\C.getD j 0<=b.hs[j].hi
theorem CntTo.put {b:Built} {k:Nat} {C:List Int} (h:CntTo b k C) (hk:k < b.hs.length) {v:Int} (h1:b.hs[k].lo<=v) (h2:v<=b.hs[k].hi) : CntTo b (k+1) (C++[v]):=by
 refine ⟨by rw [List.length_append,h.len];rfl,fun j hj hj'=>?_⟩;rw [List.getD_eq_getElem?_getD];by_cases e:j < k
 ·rw [List.getElem?_append_left (by rw [h.len];exact e),<- List.getD_eq_getElem?_getD];exact h.has j e hj'
 ·obtain rfl:j=k:=by omega
  rw [List.getElem?_append_right (by rw [h.len];exact Nat.le_refl _),h.len,Nat.sub_self];exact ⟨h1,h2⟩
theorem CntTo.all {b:Built} {C:List Int} (h:CntTo b b.hs.length C) : CntAt b C:=⟨h.len,fun k hk=>h.has k hk hk⟩
theorem CntAt.i64 {b:Built} (hv:zF b=0) {C:List Int} (h:CntAt b C) : ∀ c∈C,I64 c:=fun c hc=>by
 obtain ⟨j,hj,rfl⟩:=List.getElem_of_mem hc;have hj':j < b.hs.length:=by rw [<- h.len];exact hj
 have h1:=h.has j hj';have h2:=zGO hv hj';rw [List.getD_eq_getElem?_getD,List.getElem?_eq_getElem hj] at h1;simp only [Option.getD_some] at h1;unfold I64;omega
def InTo (b:Built) (Z C:List Int) (k:Nat) (f:Bool) : Prop:=f=true↔(zCV b Z/\∀ j,j < k->(zLY b Z j).lo<=C.getD j 0/\C.getD j 0<=(zLY b Z j).hi)
theorem inTo_put {b:Built} {Z C:List Int} {k:Nat} {f g:Bool} (h:InTo b Z C k f) (hC:C.length=k) {n:Int} (hg:g=true↔(f=true/\(zLY b Z k).lo<=n/\n<=(zLY b Z k).hi)) : InTo b Z (C++[n]) (k+1) g:=by
 have e1:∀ j,j < k->(C++[n]).getD j 0=C.getD j 0:=fun j hj=>by rw [List.getD_eq_getElem?_getD,List.getElem?_append_left (by omega),<- List.getD_eq_getElem?_getD]
 have e2:(C++[n]).getD k 0=n:=by rw [List.getD_eq_getElem?_getD,List.getElem?_append_right (by omega),hC,Nat.sub_self];rfl
 unfold InTo at *;rw [hg,h];constructor
 ·rintro ⟨⟨h1,h2⟩,h3⟩
  refine ⟨h1,fun j hj=>?_⟩;by_cases e:j=k
  ·subst e;rw [e2];exact h3
  ·rw [e1 j (by omega)];exact h2 j (by omega)
 ·rintro ⟨h1,h2⟩;have h3:=h2 k (by omega);rw [e2] at h3;exact ⟨⟨h1,fun j hj=>by have:=h2 j (by omega);rwa [e1 j hj] at this⟩,h3⟩
theorem law_walk (w:World) (vr vn vm vh vs vl:Value) (b:Built) (x y z:Int) (by_:List Int) (hB:BuiltAt w vr vn vm vh vs b) (kr:Capd vr b.ns.reg.length) (kn:Capd vn b.ns.notes.length) (kh:Capd vh b.hs.length) (hT:Tables w) (hx:U8 x) (hy:U8 y) (hz:U8 z) (hl:Sl AtU32 1 w vl by_) :
  Calls prog 4 #[.agg #[vr,vn,.int .i64 b.of,vm,vh,vs],.int .u8 x,.int .u8 y,.int .u8 z,vl] w (RetT w):=by
 obtain ⟨i0,hif,iz0,iz1,iz2⟩:=info_parts zFY;obtain ⟨al,cl,rfl,_⟩:=zD hl;obtain ⟨ar,cr,rfl,_⟩:=zD hB.reg;obtain ⟨an,cn,rfl,_⟩:=zD hB.notes;obtain ⟨am,cm,rfl,_⟩:=zD hB.ms;obtain ⟨ah,ch,rfl,_⟩:=zD hB.hs;obtain ⟨ae,ce,rfl,_⟩:=zD hB.rs;have S:=(Sta.of (((tables_ever hT).and (fun _ k=>zJ stays_u32 k hl)).and (fun _ k=>hB.ext k))).new #[.slice ar b.ns.reg.length cr,.slice an b.ns.notes.length cn,.int .i64 b.of,.slice am b.ms.length cm,.slice ah b.hs.length ch,.slice ae b.rs.length ce] 32;have HCI:=zE (fun i=>chL_in hl i);have HZ:=zE hz;clear hB hT hl hz;go_enter func4,ntmps4;go_wp2_with fail;generalize hg0:w.heap.size=g0 at *;generalize w.alloc _=w2 at *;refine (alive_law _ S.now.2.2).mono ?_;rintro e w2 ⟨rfl,h⟩;replace S:=S.ext h;clear h;obtain ⟨l0,⟨q0,q1,q2,q3,q4,q5⟩,-⟩:=(S.get 0 rfl).q6;go_wp2_with fail;clear q0 q1 q2 q3 q4 q5 l0;refine (ready_law _ _ _ _ _ _ b S.now.1).mono ?_;intro e w2 hr;rcases hr.both with ⟨⟨hT,hv⟩,rfl,h⟩ | ⟨_,rfl,h⟩
 case inr =>replace S:=S.ext h;clear hr h;go_wp2;go_ret;exact ⟨rfl,S.held.below⟩
 replace S:=S.ext h;clear hr h;have HV:=zE hv;have HNO:=zE (zBJ (zS hv).1).2;have hl80:=hT.1.1.1;have hA:BuiltArg w2 (.slice ar b.ns.reg.length cr) (.slice an b.ns.notes.length cn) (.slice am b.ms.length cm) (.slice ah b.hs.length ch) (.slice ae b.rs.length ce) b:=⟨⟨⟨S.now.1.reg,kr,S.now.2.2.1⟩,S.now.1.notes,kn⟩,S.now.1,kh,S.now.2.2.2.1⟩;replace S:Sta w w2 _ _:=⟨S.held,((tables_ever S.now.2.2).and (fun _ k=>zJ stays_u32 k S.now.2.1)).and (fun _ k=>hA.ext k)⟩;clear hT hv hA kr kn kh;obtain ⟨l0,⟨q0,q1,q2,q3,q4,q5⟩,-⟩:=(S.get 0 rfl).q6;by_cases h0:b.ms.length=0
 ·have h0':((b.ms.length:Int) == 0)=true:=by simp [h0]
  go_wp2;go_ret;exact ⟨rfl,S.held.below⟩
 have h0':((b.ms.length:Int) == 0)=false:=by simpa using h0
 have hmp:0 < b.ms.length:=by omega
 have hjl:x.toNat % b.ms.length < b.ms.length:=Nat.mod_lt _ hmp;have hix:=tmod_is (n:=x) hx.1 hmp;obtain ⟨bm,om,rfl,c0,_⟩:=(zY S.now.1.at_.ms).2 _ hjl;have HM:=zE (List.getElem_mem hjl);generalize x.toNat % b.ms.length=i at *;change Hid (b.ms[i]∈b.ms) at HM
 (try simp only at c0)
 generalize b.ms[i]=m at *;rw [Nat.mul_one] at c0;unfold zK at c0;have hx2:=hx.2;have hx1:=hx.1;have hy2:=hy.2;have hy1:=hy.1;obtain ⟨w1,w3⟩:=wrap2 x (by omega);obtain ⟨w4,w5⟩:=wrap2 y (by omega);have hil:(i:Int) < b.ms.length:=by omega
 have hne:b.ms≠[]:=fun e=>by rw [e] at hmp;cases hmp
 clear h0;go_wp2;go_region;replace S:=S.ext (zO w2);generalize w2.drew=w2 at *;clear q0 q1 q2 q3 q4 q5 l0 c0 hix hil hjl hne hmp;obtain ⟨l0,⟨q0,q1,q2,q3,q4,q5⟩,-⟩:=(S.get 0 rfl).q6;go_wp2_with fail;clear q0 q1 q2 q3 q4 q5 l0;refine (issue_law _ _ _ _ _ _ b y S.now.1.at_ (by omega) hy1 (by omega)).mono ?_;rintro e w2 ⟨h,hcase⟩;replace S:=S.ext h;clear h;rcases hcase with ⟨hR,rfl⟩ | ⟨p,hp,rfl⟩
 ·replace S:=S.new #[.int .i64 0,.int .i64 0] 45;obtain ⟨l0,⟨q0,q1,q2,q3,q4,q5⟩,-⟩:=(S.get 1 rfl).q6;go_wp2_with fail;clear q0 q1 q2 q3 q4 q5 l0;refine (signed_built _ _ _ _ _ _ b S.now.1 S.now.2.2.2.2).mono ?_;rintro e wD ⟨u,rfl,hs,h⟩;have HB:=zE (zA S.held.below h);rw [HV.out];obtain ⟨as2,cs2,rfl,_⟩:=zD hs;clear S hs h hR;go_wp2;go_ret;exact ⟨rfl,HB.out⟩
 have hpr:=ref_part (zBJ (zS HV.out).1).1 hp;have HPR:=zE hpr;clear hp;obtain ⟨pd,pl⟩:=p;simp only at *;replace S:=S.new #[.int .i64 pd,.int .i64 pl] 45;obtain ⟨l0,⟨q0,q1,q2,q3,q4,q5⟩,-⟩:=(S.get 1 rfl).q6;go_wp2_with fail;clear q0 q1 q2 q3 q4 q5 l0;refine (signed_built _ _ _ _ _ _ b S.now.1 S.now.2.2.2.2).mono ?_;rintro e wD ⟨u,rfl,hs,h⟩;rw [signedL_of HV.out] at hs;rw [HV.out];obtain ⟨as2,cs2,rfl,_⟩:=zD hs;replace S:=(S.ext h).and (fun _ k=>zJ zGK k hs);clear hs h hpr;obtain ⟨l0,⟨q0,q1,q2,q3,q4,q5⟩,-⟩:=(S.get 1 rfl).q6;obtain ⟨l1,⟨p0,p1⟩,-⟩:=(S.get 0 rfl).q2;go_wp2_with fail;clear q0 q1 q2 q3 q4 q5 l0 p0 p1 l1;generalize w2.heap.size=g1 at *;refine (zKB _ _ _ _ _ _ b m pd pl S.now.2.1 S.now.2.2.2.2.2 (part_64 HV.out HPR.out)).mono ?_;rintro e wE ⟨rfl,h⟩;replace S:=(S.ext h).new #[.int .i64 (zBE b m pd pl).lo,.int .i64 (zBE b m pd pl).hi] 40;clear h;rcases ask_two HV.out HM.out with ⟨hask,hne⟩ | ⟨hask,hnil⟩
 case inr =>
  have hl0:(((zAQ b).length:Int) == 0)=true:=by rw [hnil];rfl
  have hpc:zAS b m pd pl=8:=(zNA m HPR.out).trans hask;rw [hpc];have HB:=zE S.held.below;clear S hnil hask hpc;go_wp2;go_ret;exact ⟨rfl,HB.out⟩
 have hlp:0 < (zAQ b).length:=List.length_pos_iff.2 hne;have hl0:(((zAQ b).length:Int) == 0)=false:=by simpa using hne
 have hpc:zAS b m pd pl=0:=(zNA m HPR.out).trans hask;have hsa:=seen_all (m:=m) (d:=pd) (l:=pl) hne;have hse:=fun S hS high=>end_held HV.out (S:=S) hS high m pd pl
 rw [<- zRH hask HPR.out] at hsa hse;have HSA:=zE hsa;have HSE:=zE hse;rw [hpc];clear hpc hsa hse hask hne;generalize zBE b m pd pl=sp at *;obtain ⟨slo,shi⟩:=sp;simp only at *;go_wp2;generalize wE.heap.size=g2 at *;generalize wE.alloc _=wS at *;have HBS:=zE S.held.below;have HS:Hid (Sta wS wS _ _):=⟨⟨br_,S.held.held⟩,S.ever⟩;have h4:b.hs.length<=4:=(zS HV.out).2.2.2.1;have h10:b.rs.length<=10:=(zS HV.out).2.2.2.2.1;clear S;go_loopw [19,20,117] (fun v19 v20 q wr=>∃ i:Nat,q = .int .i64 i/\i<=(zAQ b).length/\v19 = .bool (decide (slo∈seenL b m pd pl i))/\v20 = .bool (decide (shi∈seenL b m pd pl i))/\Hid (Below wS.heap.size wS wr)) (fun _ _ q _=>(zAQ b).length - (intOf q).toNat)
 case atStart=>exact ⟨0,rfl,by omega,by rw [decide_eq_false (by simp [seenL])],by rw [decide_eq_false (by simp [seenL])],br_⟩
 case round =>
  obtain ⟨i,rfl,hi,rfl,rfl,HB⟩:=hrel;have S:=HS.out.ext HB.out;by_cases hlt:i < (zAQ b).length
  case pos =>
   obtain ⟨bs,os,rfl,v,c0,hsv⟩:=(zY S.now.1).2 i hlt;have HBF:Hid (∀ h:0 < i,∃ v' X,zK wr bs (os+(i - 1)) v'/\Sl zAM 1 wr v' X/\zFV X (zAQ b)[i]=true):=fun h=>by
    obtain ⟨b',o',e,v',d0,hs'⟩:=(zY S.now.1).2 (i - 1) (by omega);cases e;rw [Nat.mul_one] at d0;exact ⟨v',_,d0,hs',left_fst HV.out h hlt⟩
   have hmem:=List.getElem_mem hlt;have hsucc:=seen_succ (m:=m) (d:=pd) (l:=pl) hlt;have hTL:=((zFQ HV.out).2 _).1 hmem;generalize (zAQ b)[i]=Z at *;have HTL:=zE hTL;have HZM:=zE hmem;have HSU:=zE hsucc;obtain ⟨az,cz,rfl,_⟩:=zD hsv;rw [Nat.mul_one] at c0;have HZS:=zE (And.intro hsv c0);unfold zK at c0;clear S hmem hsucc hTL hsv;go_upto_region 16 with fail
   clear c0;go_cut [140] (fun vt wx=>vt = .bool false/\Hid (Below wr.heap.size wr wx))
   case first =>

    have S:=HS.out.ext HB.out;obtain ⟨l0,⟨q0,q1,q2,q3,q4,q5⟩,-⟩:=(S.get 2 rfl).q6;go_wp2_with fail;clear q0 q1 q2 q3 q4 q5 l0;refine (truth03 _ _ _ _ b.ns.notes Z S.now.2.1.notes.sl HZS.out.1 (by have:=HNO.out.1;omega) (notes_distinct HNO.out)).mono ?_;intro e w7 hr;rcases hr.both with ⟨_,rfl,h7⟩ | ⟨hno,_,_⟩
    case inr=>exact absurd HTL.out.1 hno
    clear hr;have HB7:=zE h7;clear h7 S;as_aux_lemma =>
    by_cases h0:0 < i
    ·have h0':(i:Int) > 0:=by omega
     obtain ⟨v',X,d0,hX,hbef⟩:=HBF.out h0;obtain ⟨ax,cx,rfl,_⟩:=zD hX;have d0:=zC HB7.out d0;obtain ⟨e1,e2⟩:=wrap2 ((i:Int) - 1) (by omega);obtain ⟨p,hp1,hp2⟩ : ∃ p:Nat,i - 1=p/\((i:Int) - 1)=p:=⟨i - 1,rfl,by omega⟩;have hpl:(p:Int) < (zAQ b).length:=by omega
     rw [hp1] at d0;rw [hp2] at e1 e2;have HX:=zE (And.intro (zJ zN HB7.out hX) hbef);unfold zK at d0;clear hX hbef hp1;go_wp2_with (go_at_call 27;refine (before03 _ _ _ X Z HX.out.1 (zJ zN HB7.out HZS.out.1)).mono ?_;rintro e w8 ⟨rfl,h8⟩;rw [HX.out.2]);go_meet
     case rel=>exact ⟨rfl,zA HB7.out h8⟩
    ·have h0':¬ ((i:Int) > 0):=by omega
     go_wp2;go_meet
     case rel=>exact ⟨rfl,HB7.out⟩

   case rest =>
    obtain ⟨rfl,HC⟩:=hcut;have hb2:=zB wc (.cells #[.bool false,.bool true] 4);have HL2:=zE (Lay.new wc 4 #[.bool false,.bool true]);have HW:=zE (zA (zA HB.out HC.out) hb2);have HZ2:=zE (zJ zN hb2 (zJ zN HC.out HZS.out.1));clear hb2 HC HB HZS HBF;go_wp2;generalize wc.heap.size=gb at *;generalize wc.alloc _=wB at *;go_loopw [19,20,143] (fun v19 v20 q wh=>∃ (h:Nat) (f g:Bool),q = .int .i64 h/\h<=2/\v19 = .bool f/\v20 = .bool g/\Hid (f=decide (slo∈seenL b m pd pl i++[heldB b Z (endL b Z false) m pd pl,heldB b Z (endL b Z true) m pd pl].take h))/\Hid (g=decide (shi∈seenL b m pd pl i++[heldB b Z (endL b Z false) m pd pl,heldB b Z (endL b Z true) m pd pl].take h))/\Hid (Below wB.heap.size wB wh)) (fun _ _ q _=>2 - (intOf q).toNat)
    case atStart=>exact ⟨0,_,_,rfl,by omega,rfl,rfl,by unfold Hid;simp,by unfold Hid;simp,br_⟩
    case round =>
     obtain ⟨h,f,g,rfl,hh,rfl,rfl,HF,HGG,HBh⟩:=hrel;generalize wr=wh at *;by_cases hlt2:h < 2
     case neg =>
      obtain rfl:h=2:=by omega
      have HE:=zE (zA HW.out HBh.out);clear HBh;go_wp2;exact ⟨⟨i+1,by go_num,by omega,by rw [HSU.out,HF.out];rfl,by rw [HSU.out,HGG.out];rfl,HE⟩,by simp [intOf];omega⟩
     case pos =>
      obtain ⟨hg,hcell,htk⟩ : ∃ hg:Bool,wh.cell? ⟨gb,h,none⟩=some (.bool hg)/\[heldB b Z (endL b Z false) m pd pl,heldB b Z (endL b Z true) m pd pl].take (h+1)=[heldB b Z (endL b Z false) m pd pl,heldB b Z (endL b Z true) m pd pl].take h++[heldB b Z (endL b Z hg) m pd pl]:=by
       have L:=HL2.out.ext HBh.out;rcases (show h=0\/h=1 by omega) with rfl | rfl
       ·exact ⟨false,L.cell 0 _ rfl,rfl⟩
       ·exact ⟨true,L.cell 1 _ rfl,rfl⟩
      have HTK:=zE htk;have hh2:(h:Int) < 2:=by omega
      have S:=HS.out.ext (zA HW.out HBh.out);obtain ⟨l0,⟨q0,q1,q2,q3,q4,q5⟩,-⟩:=(S.get 2 rfl).q6;clear htk S;go_wp2;clear q0 q1 q2 q3 q4 q5 l0 hcell;generalize hwh:wh.heap.size=nh at *;go_loopw [25,150] (fun vc q wk=>∃ k:Nat,q = .int .i64 k/\k<=b.hs.length/\Hid (Below nh wh wk)/\Hid (wk.ownsRow nh 3 1 vc k (((endL b Z hg).take k).map (Value.int .i64)))) (fun _ q _=>b.hs.length - (intOf q).toNat)
      case atStart=>exact ⟨0,rfl,by omega,br_,World.ownsRow_nil _ _ _ _⟩
      case round =>
       obtain ⟨k,rfl,hk,HBk,HO⟩:=hrel;generalize wr=wk at *;have S:=HS.out.ext (zA (zA HW.out HBh.out) (by rw [hwh];exact HBk.out));by_cases hlk:k < b.hs.length
       case pos =>
        have hI:In (k:Int) 0 ((b.hs.length:Int) - 1):=by unfold In;omega
        obtain ⟨hc1,hc2⟩:=tell_ok HV.out HTL.out.1 hI HTL.out.2;change zQQ b Z k=zLY b Z k at hc2;obtain ⟨c1,c2,c3,-,-,-⟩:=cnt_hull hlk HTL.out.2;have hvh:=zGO HV.out hlk;have hET:=endL_take (S:=Z) (high:=hg) hlk;obtain ⟨bh,oh,rfl,⟨-,-,d2,d3⟩,-⟩:=(zY S.now.2.1.at_.hs).2 k hlk;have HCC:=zE (And.intro hc1 hc2);have HET:=zE hET;generalize b.hs[k]=hp at *;obtain ⟨l0,⟨q0,q1,q2,q3,q4,q5⟩,-⟩:=(S.get 2 rfl).q6;have HDD:=zE (And.intro d2 d3);clear hc1 hc2 hI hET d2 d3;go_wp2_with fail;clear q0 q1 q2 q3 q4 q5 l0;refine (counts_built _ _ _ _ _ _ _ b Z k S.now.2.1 S.now.2.2.2.2.2 (zJ zN (zA HBh.out (by rw [hwh];exact HBk.out)) HZ2.out) (by unfold I64;omega)).mono ?_;rintro e w7 ⟨rfl,h7⟩;rw [HCC.out.1,HCC.out.2];generalize zLY b Z k=sc at *;obtain ⟨clo,chi⟩:=sc;simp only at *;replace S:=(S.ext h7).new #[.int .i64 clo,.int .i64 chi] 40;have hb7:=zA h7 (zB w7 (.cells #[.int .i64 clo,.int .i64 chi] 40));have HO7:=zE (zAC hb7 HO.out);have HB7:=zE (HBk.out.trans (hb7.mono (by have:=HBk.out.size;omega)));have HL7:=zE (S.get 0 rfl);have HOL:Hid (∀ g,u25.ownBlock=some g->g < w7.heap.size):=fun g e=>by have:=(HO.out.lt g e).2;have:=h7.size;omega
        have d2:=zC hb7 HDD.out.1;have d3:=zC hb7 HDD.out.2;obtain ⟨l0,⟨q0,q1,q2,q3,q4,q5⟩,-⟩:=(S.get 3 rfl).q6;obtain ⟨l1,⟨p0,p1⟩,-⟩:=(S.get 0 rfl).q2;unfold zK at d2 d3;have t1:¬ (clo > chi):=by omega
        have t2:¬ (clo < hp.lo):=by omega
        have t3:¬ (chi > hp.hi):=by omega
        have hkl:(k:Int) < b.hs.length:=by omega
        have hn7:nh<=w7.heap.size:=by have:=HBk.out.size;have:=h7.size;omega
        have HN7:=zE hn7;clear h7 HO HBk hb7 HDD HCC S c1 c2 c3 hvh hn7;go_upto_region 26 with fail
        as_aux_lemma =>
        go_region;have HBd:=zO (w7.alloc (.cells #[.int .i64 clo,.int .i64 chi] 40));have HO8:=zE (zAC HBd HO7.out);have HB8:=zE (HB7.out.trans (HBd.mono (Nat.le_trans HN7.out (by rw [World.size_alloc];omega))));have HL8:=zE (HL7.out.ext HBd);have hlg:nh<=w7.heap.size:=HN7.out;clear d2 d3 q0 q1 q2 q3 q4 q5 l0 p0 p1 l1 t1 t2 t3 HBd HO7 HB7 HL7 HN7;generalize w7.heap.size=gk at *;generalize (w7.alloc _).drew=wD at *;have hgk:gk < wD.heap.size:=HL8.out.lt;have hk4:k<=4:=by omega
        have hol:∀ g,u25.ownBlock=some g->g≠gk:=fun g e h=>by have:=HOL.out g e;omega
        have HO9:=zE ((HO8.out.kept (zEK wD gk 0 (.int .i64 chi)) (.inr fun e=>hol _ e rfl)));have HB9:=zE (zI (j:=0) (u:=.int .i64 chi) hlg HB8.out);have HL9:=zE (lay_set HL8.out 0 (.int .i64 chi));obtain ⟨l1,⟨p0,p1⟩,f0,f1⟩:=HL8.out.q2;have het:=HET.out
        (try simp only at het)
        have HE2:=zE het;clear HET het hol HOL;cases hg
        case' false =>
         go_upto_region 30 with fail
         have HE3:Hid ((endL b Z false).take (k+1)=(endL b Z false).take k++[clo]):=HE2.out;clear HO9 HB9 HL9 HE2 p0 p1 l1 f0 f1;have HO9:=HO8;have HB9:=HB8;have HL9:Hid (Lay wD gk #[.int .i64 clo,.int .i64 chi] 40):=HL8;clear HO8 HB8 HL8;generalize wD=wF at *;generalize clo=cv at *
        case' true =>
         go_upto_region 30 with fail
         have HE3:Hid ((endL b Z true).take (k+1)=(endL b Z true).take k++[chi]):=HE2.out;have HL9:Hid (Lay (wD.setCell ⟨gk,0,none⟩ (.int .i64 chi)) gk #[.int .i64 chi,.int .i64 chi] 40):=HL9.out;clear HO8 HB8 HL8 HE2 p0 p1 l1 f0 f1;generalize wD.setCell _ _=wF at *;generalize chi=cv at *
        all_goals
         as_aux_lemma =>
         have hb1:=zB wF (.cells #[.int .i64 cv] 3);have HO10:=zE (zAC hb1 HO9.out);have HCN:=zE (cellsN_new wF [.int .i64 cv] 3 _ rfl);have HB10:=zE (HB9.out.trans (hb1.mono (by have:=HB9.out.size;omega)));have hsz:=HB10.out.size;obtain ⟨l1,⟨p0,p1⟩,-⟩:=HL9.out.q2;rw [hwh] at hsz;clear hb1 HO9 HB9 HL9;go_wp2_with (at_builtin;generalize wF.heap.size=g9 at *;generalize wF.alloc _=wG at *;refine wpList_append_own _ rfl _ _ 28 rfl nh 3 i0 (.int .i64 0) 1 8 underlying28 hif iz0 iz1 iz2 rfl (by decide) _ _ _ rfl HO10.out ⟨g9,0,none⟩ 1 1 [.int .i64 cv] rfl rfl HCN.out (by simp [Value.oneCell']) (by unfold maxLen;omega) (by omega) hsz ?_;intro v' w9 hown' hgrow _);have HBf:=zE (HB10.out.grown hgrow hsz (fun r e=>(HO10.out.lt r e).1));have HOf:=zE hown';clear hown' hgrow HO10 HB10 HCN p0 p1 l1;go_wp2;exact ⟨⟨k+1,by go_num,by omega,HBf,by rw [HE3.out,List.map_append];exact HOf⟩,by simp [intOf];omega⟩
       case neg =>
        obtain rfl:k=b.hs.length:=by omega
        have hCA:=ends_cnt HTL.out.2 hg;have HCA:=zE hCA;have htl:(endL b Z hg).take b.hs.length=endL b Z hg:=by rw [<- endL_len b Z hg,List.take_length]
        have hown:wk.ownsRow nh 3 1 u25 (endL b Z hg).length ((endL b Z hg).map (Value.int .i64)):=by have h:=HO.out;rw [htl] at h;rw [endL_len];exact h
        have hcs:=zBF hown (CntAt.i64 HV.out hCA);obtain ⟨ac,cc,rfl⟩:=zDC hown;have HLR:=zE (left_true HV.out HTL.out.2 (endL_at HTL.out.2 hg));have HEH:=zE (HSE.out Z HZM.out hg);have hZ3:=zJ zN (zA HBh.out (by rw [hwh];exact HBk.out)) HZ2.out;have HB9:=zE (zA HBh.out (by rw [hwh];exact HBk.out));have HS9:Hid (Sta wk wk _ _):=⟨⟨br_,S.held.held⟩,((S.ever.and (fun _ k=>zJ zN k hZ3)).and (fun _ k=>zJ zN k hcs))⟩;have HL9:=zE (HL2.out.ext (zA HBh.out (by rw [hwh];exact HBk.out)));obtain ⟨l0,⟨q0,q1,q2,q3,q4,q5⟩,-⟩:=(S.get 2 rfl).q6;generalize hEL:endL b Z hg=EL at *;clear hCA htl hown hcs hZ3 S HO HBk;go_wp2;clear q0 q1 q2 q3 q4 q5 l0;go_loopw [206] (fun q wr=>∃ r:Nat,q = .int .i64 r/\r<=b.rs.length/\Hid (Below wk.heap.size wk wr)) (fun q _=>b.rs.length - (intOf q).toNat)
        case atStart=>exact ⟨0,rfl,by omega,br_⟩
        case round =>
         obtain ⟨r,rfl,hr,HB⟩:=hrel;have S:=HS9.out.ext HB.out;by_cases hlr:r < b.rs.length
         case pos =>
          obtain ⟨br,orr,rfl,⟨c0,c1,c2,c3,c4⟩,_⟩:=(zY S.now.2.2.2.1.at_.rs).2 r hlr;have hok:=zGQ HV.out (List.getElem_mem hlr);have hhy:=HLR.out _ (List.getElem_mem hlr);generalize b.rs[r]=y at *;have HOK:=zE hok;have HHY:Hid (HoldsB b Z EL y):=hEL ▸ hhy;have HYD:Hid (y.d∈nums b.ns.reg):=part_num HV.out hok.2.2.2;have S2:=S.new #[.int .i64 y.num,.int .i64 y.m,.int .i64 y.d,.int .i64 y.l,.int .u8 y.k] 49;have HB1:=zE (zA HB.out (zB wr (.cells #[.int .i64 y.num,.int .i64 y.m,.int .i64 y.d,.int .i64 y.l,.int .u8 y.k] 49)));obtain ⟨l0,⟨q0,q1,q2,q3,q4,q5⟩,-⟩:=(S2.get 3 rfl).q6;obtain ⟨l1,⟨p0,p1,p2,p3,p4⟩,-⟩:=(S2.get 0 rfl).q5;unfold zK at c0 c1 c2 c3 c4;clear S HB hok hhy;as_aux_lemma =>
          go_wp2_with fail;clear q0 q1 q2 q3 q4 q5 l0 p0 p1 p2 p3 p4 l1 c0 c1 c2 c3 c4;refine (holds_law _ _ _ _ _ _ _ _ b Z EL y S2.now.2.2.2.1 S2.now.2.1 S2.now.1 HV.out HTL.out.1 HCA.out HOK.out.2.2.1 HYD.out HOK.out.2.1).mono ?_;rintro e w9 ⟨rfl,h9⟩;have HB2:=zE (zA HB1.out h9);rw [decide_eq_true HHY.out];clear h9 S2 HB1;go_wp2;exact ⟨⟨r+1,by go_num,by omega,HB2⟩,by simp [intOf];omega⟩
         case neg =>
          obtain rfl:r=b.rs.length:=by omega
          have HB3:=zE (zA HB9.out HB.out);obtain ⟨l0,⟨q0,q1,q2,q3,q4,q5⟩,-⟩:=(S.get 2 rfl).q6;obtain ⟨l1,⟨p0,p1⟩,-⟩:=(S.get 1 rfl).q2;go_wp2_with fail;clear q0 q1 q2 q3 q4 q5 l0 p0 p1 l1;refine (held_law _ _ _ _ _ _ _ _ b Z EL m pd pl S.now.2.2.2.1 S.now.2.1 S.now.1 HV.out HTL.out.1 HCA.out HM.out (part_num HV.out HPR.out)).mono ?_;rintro e w9 ⟨rfl,h9⟩;replace S:=S.ext h9;have HB4:=zE (zA HB3.out h9);have hf2:=mem_step (n:=heldB b Z EL m pd pl) HF.out;have hg2:=mem_step (n:=heldB b Z EL m pd pl) HGG.out;rw [List.append_assoc,<- HTK.out] at hf2 hg2;have HF2:=zE hf2;have HG2:=zE hg2;have t1:¬ (heldB b Z EL m pd pl < slo):=by have:=HEH.out.1;omega
          have t2:¬ (heldB b Z EL m pd pl > shi):=by have:=HEH.out.2;omega
          obtain ⟨l1,⟨p0,p1⟩,-⟩:=(S.get 0 rfl).q2;clear hf2 hg2 HF HGG S HB3 h9 HEH HTK;generalize heldB b Z EL m pd pl=nn at *;go_upto_region 42 with fail
          cases f <;> cases g;all_goals
           as_aux_lemma =>
           go_region;have HB5:=zE (zA HB4.out (zO w9));clear p0 p1 l1 HB4;generalize w9.drew=wV at *;go_wp2;exact ⟨⟨h+1,_,_,by go_num,by omega,rfl,rfl,HF2,HG2,HB5⟩,by simp [intOf];omega⟩
  case neg =>
   obtain rfl:i=(zAQ b).length:=by omega
   have hsl:=decide_eq_true HSA.out.1;have hsh:=decide_eq_true HSA.out.2;rw [hsl,hsh];have HB2:=zE (zA HBS.out (zA HB.out (br_)));have HS2:Hid (Sta wr wr _ _):=⟨⟨br_,S.held.held⟩,S.ever⟩;clear hsl hsh HSA HSE HB HS HBS S;generalize wr=wF at *;have S:=HS2.out;obtain ⟨l0,⟨q0,q1,q2,q3,q4,q5⟩,-⟩:=(S.get 2 rfl).q6;go_wp2_with fail;clear q0 q1 q2 q3 q4 q5 l0;refine (truths03 _ _ _ b.ns.notes S.now.2.1.notes.sl (by have:=HNO.out.1;omega) (notes_distinct HNO.out) (fun L h=>openIx_len5 HNO.out h)).mono ?_;rintro e w5 ⟨u,O,rfl,hO,hOm,hO5,⟨base,cs,hown,hri⟩,h⟩;have HT:Hid (∀ S∈refT O,IsT (zBO b.ns.notes) S):=fun S hS=>(isT_congr hOm S).1 ((refT_mem hO S).1 hS)
   have hlen:0 < (refT O).length:=by rw [refT_len];exact Nat.pow_pos (by decide)
   replace S:=S.ext h;clear h hO hOm hO5;obtain ⟨gt,ct,rfl,_⟩:=zIQ hown hlen;have hk:z.toNat % (refT O).length < (refT O).length:=Nat.mod_lt _ hlen;have hke:=tmod_is (n:=z) HZ.out.1 hlen;obtain ⟨vz,hcz,hz⟩:=rowInts_pick hri hk;have c0:=hown.cells (g:=gt) rfl _ _ hcz;rw [zAZ] at c0;have hT:=HT.out _ (List.getElem_mem hk);generalize (refT O)[z.toNat % (refT O).length]=Z at *;generalize z.toNat % (refT O).length=j at *;obtain ⟨az,cz,rfl,_⟩:=zD hz.now;have HZT:=zE (And.intro hT hz.now);have hil:(j:Int) < (refT O).length:=by omega
   have hz1:=HZ.out.1;have hz2:=HZ.out.2;obtain ⟨w1,w3⟩:=wrap2 z (by omega);clear HT hown hri hcz hz hT hk;generalize (refT O).length=nT at *;replace S:=S.and (fun _ k=>zJ zN k HZT.out.2);have HB3:=zE (zA HB2.out S.held.below);have HS3:Hid (Sta w5 w5 _ _):=⟨⟨br_,S.held.held⟩,S.ever⟩;clear S HS2 HB2;go_wp2;clear c0 hke hil hlen hz1 hz2 w1 w3;have hsz5:Below w5.heap.size w5 w5:=br_;go_loopw [37,287] (fun v37 q wr=>∃ k:Nat,q = .int .i64 k/\k<=(zAQ b).length/\v37 = .bool (decide (Z∈(zAQ b).take k))/\Hid (Below w5.heap.size w5 wr)) (fun _ q _=>(zAQ b).length - (intOf q).toNat)
   case atStart=>exact ⟨0,rfl,by omega,by rw [decide_eq_false (by simp)],hsz5⟩
   case round =>
    clear hsz5;obtain ⟨k,rfl,hk,rfl,HB⟩:=hrel;have S:=HS3.out.ext HB.out;by_cases hlk:k < (zAQ b).length
    case pos =>
     obtain ⟨bs,os,rfl,v,c0,hsv⟩:=(zY S.now.2.1).2 k hlk;have htk:(zAQ b).take (k+1)=(zAQ b).take k++[(zAQ b)[k]]:=List.take_succ_eq_append_getElem hlk;generalize (zAQ b)[k]=X at *;obtain ⟨ax,cx,rfl,_⟩:=zD hsv;have HTK:=zE htk;rw [Nat.mul_one] at c0;unfold zK at c0;have HXZ:=zE (And.intro hsv S.now.1);clear S htk hsv;by_cases hin:Z∈(zAQ b).take k
     ·rw [decide_eq_true hin]
      have hin2:Hid (decide (Z∈(zAQ b).take (k+1))=true):=by rw [HTK.out];exact decide_eq_true (List.mem_append_left _ hin)
      clear hin;go_wp2;exact ⟨⟨k+1,by go_num,by omega,by rw [hin2.out],HB⟩,by simp [intOf];omega⟩
     ·rw [decide_eq_false hin]
      have hin2:Hid (decide (Z∈(zAQ b).take (k+1))=decide (X=Z)):=by rw [HTK.out];exact decide_eq_decide.2 (by rw [List.mem_append,List.mem_singleton];exact ⟨fun g=>g.elim (fun h=>absurd h hin) Eq.symm,fun g=>.inr g.symm⟩)
      clear hin;go_wp2_with (go_at_call 16;refine (sameInts_law _ _ _ X Z HXZ.out.1 HXZ.out.2).mono ?_;rintro e w7 ⟨rfl,h7⟩;rw [<- hin2.out]);exact ⟨⟨k+1,by go_num,by omega,rfl,zA HB.out h7⟩,by simp [intOf];omega⟩
    case neg =>
     obtain rfl:k=(zAQ b).length:=by omega
     rw [List.take_length];have hlf:=(zFQ HV.out).2 Z;obtain ⟨lf,hlf1,hlf2⟩ : ∃ lf:Bool,decide (Z∈zAQ b)=lf/\(lf=true↔zCV b Z):=⟨_,rfl,by rw [decide_eq_true_iff,hlf];exact ⟨And.right,fun h=>⟨HZT.out.1,h⟩⟩⟩;rw [hlf1];have HLF:=zE hlf2;have HB4:=zE (zA HB3.out HB.out);have HS4:Hid (Sta wr wr _ _):=⟨⟨br_,S.held.held⟩,S.ever⟩;clear hlf hlf1 hlf2 HB3 HB HS3 S;generalize wr=w6 at *;obtain ⟨l0,⟨q0,q1,q2,q3,q4,q5⟩,-⟩:=(HS4.out.get 2 rfl).q6;go_wp2;clear q0 q1 q2 q3 q4 q5 l0;generalize hn6:w6.heap.size=n6 at *;go_loopw [40,41,302] (fun vc vi q wr=>∃ (k:Nat) (C:List Int) (f:Bool),q = .int .i64 k/\k<=b.hs.length/\vi = .bool f/\Hid (InTo b Z C k f)/\Hid (CntTo b k C)/\Hid (Below n6 w6 wr)/\Hid (wr.ownsRow n6 3 1 vc C.length (C.map (Value.int .i64)))) (fun _ _ q _=>b.hs.length - (intOf q).toNat)
     case atStart=>exact ⟨0,[],lf,rfl,by omega,rfl,HLF.out.trans ⟨fun h=>⟨h,fun j h=>absurd h (by omega)⟩,And.left⟩,⟨rfl,fun j h=>absurd h (by omega)⟩,br_,World.ownsRow_nil _ _ _ _⟩
     case round =>
      obtain ⟨k,C,f,rfl,hk,rfl,HI,HC,HB,HO⟩:=hrel;have S:=HS4.out.ext (by rw [hn6];exact HB.out);by_cases hlt:k < b.hs.length
      case pos =>
       obtain ⟨bh,oh,rfl,⟨c0,c1,c2,c3⟩,_⟩:=(zY S.now.2.2.1.at_.hs).2 k hlt;have hvh:=zGO HV.out hlt;have HCP:=zE (fun v h1 h2=>HC.out.put hlt (v:=v) h1 h2);have hzc:=HCI.out k;generalize b.hs[k]=h at *;unfold zK at c0 c1 c2 c3;have L1:=(HeldB.nil wr).new #[.int .i64 h.d,.int .i64 h.l,.int .i64 h.lo,.int .i64 h.hi] 42;have HL1:=zE (L1.get 0 rfl);have HS6:=zE (S.ext L1.below);have HO1:=zE (zAC L1.below HO.out);have HB1:=zE (HB.out.trans (L1.below.mono (by have:=HB.out.size;omega)));have hCl:=HC.out.len;have HCN:=zE hCl;clear S L1 HO HB HC hCl;go_upto_region 60 with fail
       clear c0 c1 c2 c3;generalize wr.heap.size=g6 at *;generalize wr.alloc _=wA at *;have HCALL:=zE (fun xq=>chq_ HS6.out.now.2.2.2.1 k (by omega) xq);have k2:=zH (show zK wA g6 2 _ from HL1.out.cell 2 _ rfl);have k3:=zH (show zK wA g6 3 _ from HL1.out.cell 3 _ rfl);obtain ⟨hd,hle,hlo,hhi⟩:=h;simp only at *;generalize chL by_ k=zc at *;have hr1:=Int.tmod_lt_of_pos zc (show (0:Int) < hhi - hlo+1 by omega);have hr2:=Int.tmod_nonneg (hhi - hlo+1) hzc.1;have hrr:=HCP.out (hlo+zc.tmod (hhi - hlo+1)) (by omega) (by omega);obtain ⟨v1,v3⟩:=wrap2 (hhi - hlo) (by omega);obtain ⟨v2,v4⟩:=wrap2 (hhi - hlo+1) (by omega);have v0:¬ (hhi - hlo+1=0):=by omega
       have v0':((hhi - hlo+1) == 0)=false:=by simpa using v0
       generalize hrg:zc.tmod (hhi - hlo+1)=r at *;obtain ⟨v5,v6⟩:=wrap2 r (by omega);obtain ⟨v7,v8⟩:=wrap2 (hlo+r) (by omega);have HRR:=zE hrr;clear HCP hrr;as_aux_lemma =>
       refine zM 16 (by kernel_rfl) (by kernel_rfl) ?_;simp only [List.append_eq,List.cons_append,List.nil_append,List.take_succ_cons,List.take_zero];iterate 5 (apply fx_ 380 (by kernel_rfl) rfl;focus (intro rq vs xq hr hc hf hd;(try simp at hd);go_simp;exact ⟨br_,rfl⟩))
       apply fx_ 380 (by kernel_rfl) rfl;focus (intro rq vs xq hr hc hf hd;(try simp at hd);go_simp;refine (HCALL.out xq).mono ?_;rintro e w9 ⟨rfl,hb9⟩;exact ⟨rfl,hb9⟩)
       iterate 10 (apply fx_ 380 (by kernel_rfl) rfl;focus (intro rq vs xq hr hc hf hd;(try simp at hd);go_simp;exact ⟨br_,rfl⟩))
       refine zQ (by simp only [List.length_append,List.length_cons,List.length_nil]) (fun vs xq hd=>?_);simp [zW,zAI,List.range,List.range.loop] at hd;simp only [zAB,Act.put,List.setIfInBounds_toArray,List.set_cons_succ,List.set_cons_zero,List.drop_succ_cons,List.drop_zero];obtain ⟨e0,e1,e2,e3,e4,e5,e6,e7,e8,e9,e10,e11,e12,e13,e14,e15⟩:=hd;simp only [Nat.zero_add,Nat.reduceAdd] at e0 e1 e2 e3 e4 e5 e6 e7 e8 e9 e10 e11 e12 e13 e14 e15 ⊢;simp only [e0,e1,e2,e3,e4,e5,e6,e7,e8,e9,e10,e11,e12,e13,e14,e15];have hlb:=zG wA xq;have S:=HS6.out.ext hlb;have HO2:=zE (zAC hlb HO1.out);have HB2:=zE (HB1.out.trans (hlb.mono (by have:=HB1.out.size;omega)));clear e0 e1 e2 e3 e4 e5 e6 e7 e8 e9 e10 e11 e12 e13 e14 e15 k2 k3 HCALL HO1 HB1 HL1 hlb HS6 v0 v0' v1 v2 v3 v4 v5 v6 v7 v8;generalize wA.later xq=wB at *;obtain ⟨cd,hcd,hcd2,hcd3⟩ : ∃ cd:Int,zJY b Z k=cd/\((cd == 0)=lf)/\(lf=true->zQQ b Z k=zLY b Z k):=by
        have hI:In (k:Int) 0 ((b.hs.length:Int) - 1):=by unfold In;omega
        refine ⟨_,rfl,?_,fun h=>(tell_ok HV.out HZT.out.1 hI (HLF.out.1 h)).2⟩;by_cases hL:zCV b Z
        ·rw [HLF.out.2 hL,(tell_ok HV.out HZT.out.1 hI hL).1];rfl
        ·have e:zJY b Z k=8:=by unfold zJY;rw [if_pos HV.out,if_pos HZT.out.1,if_pos hI,if_neg hL]
         rw [e];cases lf
         ·rfl
         ·exact absurd (HLF.out.1 rfl) hL
       obtain ⟨l0,⟨q0,q1,q2,q3,q4,q5⟩,-⟩:=(S.get 2 rfl).q6;go_wp2_with fail;clear q0 q1 q2 q3 q4 q5 l0;refine (counts_built _ _ _ _ _ _ _ b Z k S.now.2.2.1 S.now.2.2.2.2.2.2 S.now.1 (by unfold I64;omega)).mono ?_;rintro e w7 ⟨rfl,h7⟩;rw [hcd];generalize zQQ b Z k=sc at *;obtain ⟨clo,chi⟩:=sc;simp only at *;replace S:=(S.ext h7).new #[.int .i64 clo,.int .i64 chi] 40;have hb7:=zA h7 (zB w7 (.cells #[.int .i64 clo,.int .i64 chi] 40));have HO3:=zE (zAC hb7 HO2.out);have HB3:=zE (HB2.out.trans (hb7.mono (by have:=HB2.out.size;omega)));obtain ⟨l1,⟨p0,p1⟩,-⟩:=(S.get 0 rfl).q2;have hlfx:(lf != lf)=false:=by simp
       have HC3:=zE hcd3;clear h7 hb7 HO2 HB2 S hcd hcd3;go_upto_region 64 with fail
       generalize w7.heap.size=gk at *;generalize w7.alloc _=wC at *;generalize hlo+r=nv at *;go_cut [41] (fun vt wx=>∃ g:Bool,vt = .bool g/\Hid (g=true↔(f=true/\(zLY b Z k).lo<=nv/\nv<=(zLY b Z k).hi))/\Hid (wx=wC))
       case first =>
        clear hcd2 hlfx;cases f
        case false =>
         go_wp2;go_meet
         case rel=>exact ⟨false,rfl,⟨fun h=>(by cases h),fun h=>(by cases h.1)⟩,rfl⟩
        case true =>
         have hs:=HC3.out (HLF.out.2 (HI.out.1 rfl).1);have HSC:Hid ((zLY b Z k).lo=clo/\(zLY b Z k).hi=chi):=by rw [<- hs];exact ⟨rfl,rfl⟩
         clear hs;by_cases a1:nv ≥ clo
         ·go_wp2
          go_meet
          case rel=>exact ⟨decide (nv<=chi),rfl,by rw [decide_eq_true_iff,HSC.out.1,HSC.out.2];exact ⟨fun h=>⟨by trivial,a1,h⟩,fun h=>h.2.2⟩,rfl⟩
         ·go_wp2
          go_meet
          case rel=>exact ⟨false,rfl,by rw [HSC.out.1];exact ⟨fun h=>(by cases h),fun h=>absurd h.2.1 (by omega)⟩,rfl⟩
       case rest =>
        obtain ⟨g,rfl,HG,HW⟩:=hcut;have hw:=HW.out;subst hw;have hCl:C.length<=4:=by have:=HCN.out;omega
        have HIF:=zE (inTo_put HI.out HCN.out HG.out);have hb1:=zB wc (.cells #[.int .i64 nv] 3);have HO10:=zE (zAC hb1 HO3.out);have HCC:=zE (cellsN_new wc [.int .i64 nv] 3 _ rfl);have HB10:=zE (HB3.out.trans (hb1.mono (by have:=HB3.out.size;omega)));have hsz:=HB10.out.size;rw [hn6] at hsz;clear hb1 HO3 HB3 HW HG HI p0 p1 l1 hcd2 hlfx HC3;as_aux_lemma =>
        go_wp2_with (at_builtin;generalize wc.heap.size=g9 at *;generalize wc.alloc _=wG at *;refine wpList_append_own _ rfl _ _ 28 rfl n6 3 i0 (.int .i64 0) 1 8 underlying28 hif iz0 iz1 iz2 rfl (by decide) _ _ _ rfl HO10.out ⟨g9,0,none⟩ 1 1 [.int .i64 nv] rfl rfl HCC.out (by simp [Value.oneCell']) (by unfold maxLen;omega) (by omega) hsz ?_;intro v' w9 hown' hgrow _);have HBf:=zE (HB10.out.grown hgrow hsz (fun r e=>(HO10.out.lt r e).1));have HOf:=zE hown';clear hown' hgrow HO10 HB10 HCC hsz;go_wp2;exact ⟨⟨k+1,C++[nv],g,by go_num,by omega,rfl,HIF,HRR,HBf,by rw [List.length_append,List.map_append];exact HOf⟩,by simp [intOf];omega⟩
      case neg =>
       obtain rfl:k=b.hs.length:=by omega
       have HCA:=zE HC.out.all;have HII:Hid (f=true↔∀ r∈b.rs,HoldsB b Z C r):=HI.out.trans (hold_iff HV.out HC.out.all).symm;have HCI2:=zE (CntAt.i64 HV.out HC.out.all);have hcs:=zBF HO.out HCI2.out;obtain ⟨ac,cc,rfl⟩:=zDC HO.out;have HB5:=zE (zA HB4.out (by rw [hn6];exact HB.out));have HS5:Hid (Sta wr wr _ _):=⟨⟨br_,S.held.held⟩,(S.ever.and (fun _ k=>zJ zN k hcs))⟩;clear HI HC HO HB HCI2 HS4 HB4 S hcs HLF;generalize wr=w8 at *;obtain ⟨l0,⟨q0,q1,q2,q3,q4,q5⟩,-⟩:=(HS5.out.get 2 rfl).q6;go_wp2;clear q0 q1 q2 q3 q4 q5 l0;go_loopw [47,355] (fun v47 q wr=>∃ (r:Nat) (g:Bool),q = .int .i64 r/\r<=b.rs.length/\v47 = .bool g/\Hid (g=true↔∀ y∈b.rs.take r,HoldsB b Z C y)/\Hid (Below w8.heap.size w8 wr)) (fun _ q _=>b.rs.length - (intOf q).toNat)
       case atStart=>exact ⟨0,true,rfl,by omega,rfl,⟨fun _ y hy=>by simp at hy,fun _=>rfl⟩,br_⟩
       case round =>
        obtain ⟨r,g,rfl,hr,rfl,HG,HB⟩:=hrel;have S:=HS5.out.ext HB.out;by_cases hlt:r < b.rs.length
        case pos =>
         obtain ⟨br,orr,rfl,⟨c0,c1,c2,c3,c4⟩,_⟩:=(zY S.now.2.2.2.1.at_.rs).2 r hlt;have hok:=zGQ HV.out (List.getElem_mem hlt);have htk:b.rs.take (r+1)=b.rs.take r++[b.rs[r]]:=List.take_succ_eq_append_getElem hlt;generalize b.rs[r]=y at *;have HTK:=zE htk;have HOK:=zE hok;have HYD:Hid (y.d∈nums b.ns.reg):=part_num HV.out hok.2.2.2;have L1:=(HeldB.nil wr).new #[.int .i64 y.num,.int .i64 y.m,.int .i64 y.d,.int .i64 y.l,.int .u8 y.k] 49;have S2:=S.new #[.int .i64 y.num,.int .i64 y.m,.int .i64 y.d,.int .i64 y.l,.int .u8 y.k] 49;have HB1:=zE (zA HB.out L1.below);obtain ⟨l0,⟨q0,q1,q2,q3,q4,q5⟩,-⟩:=(S2.get 3 rfl).q6;obtain ⟨l1,⟨p0,p1,p2,p3,p4⟩,-⟩:=(S2.get 0 rfl).q5;unfold zK at c0 c1 c2 c3 c4;clear S L1 HB htk hok;as_aux_lemma =>
         go_wp2_with fail;clear q0 q1 q2 q3 q4 q5 l0 p0 p1 p2 p3 p4 l1 c0 c1 c2 c3 c4;refine (holds_law _ _ _ _ _ _ _ _ b Z C y S2.now.2.2.2.1 S2.now.2.1 S2.now.1 HV.out HZT.out.1 HCA.out HOK.out.2.2.1 HYD.out HOK.out.2.1).mono ?_;rintro e w9 ⟨rfl,h9⟩;have HB2:=zE (zA HB1.out h9);clear h9 S2 HB1;have hst:(∀ u∈b.rs.take (r+1),HoldsB b Z C u)↔((∀ u∈b.rs.take r,HoldsB b Z C u)/\HoldsB b Z C y):=by rw [HTK.out];exact ⟨fun h=>⟨fun u hu=>h u (List.mem_append_left _ hu),h y (List.mem_append_right _ (List.mem_singleton.2 rfl))⟩,fun h u hu=>(List.mem_append.1 hu).elim (h.1 u) (fun e=>by rw [List.mem_singleton.1 e];exact h.2)⟩
         have HST:=zE hst;clear hst;cases g
         case false =>go_wp2;exact ⟨⟨r+1,false,by go_num,by omega,rfl,⟨fun h=>(by cases h),fun h=>HG.out.2 (HST.out.1 h).1⟩,HB2⟩,by simp [intOf];omega⟩
         case true =>go_wp2;exact ⟨⟨r+1,decide (HoldsB b Z C y),by go_num,by omega,rfl,by unfold Hid;rw [decide_eq_true_iff,HST.out];exact ⟨fun h=>⟨HG.out.1 (by trivial),h⟩,And.right⟩,HB2⟩,by simp [intOf];omega⟩
        case neg =>
         obtain rfl:r=b.rs.length:=by omega
         have hg:g=f:=by have h1:=HG.out;rw [List.take_length,<- HII.out] at h1;cases g <;> cases f <;> simp_all
         subst hg;have HBE:=zE (zA HB5.out HB.out);clear S HB HG HII;go_wp2;go_ret;exact ⟨rfl,HBE.out⟩
end
end Go.Proofs.YtipaopbmklbmnaaGreatDoor
