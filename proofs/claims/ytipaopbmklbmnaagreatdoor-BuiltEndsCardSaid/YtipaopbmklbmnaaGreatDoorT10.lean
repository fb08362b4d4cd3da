/- Lemmas. -/
import Derived.Test.YtipaopbmklbmnaaGreatDoorT09
set_option linter.all false
set_option maxRecDepth 100000
set_option maxHeartbeats 0
namespace Go.Proofs.YtipaopbmklbmnaaGreatDoor
section
open Go.RowKit
theorem zIA (n lo hi:Int) (w:World) : Calls Tryz.prog 145 #[.int .i64 n,.int .i64 lo,.int .i64 hi] w fun e w'=>e = .returned (.bool (inB n lo hi))/\w'=w:=by
 refine (within08 n lo hi w).mono ?_;intro e w' h;rcases h.both with ⟨h1,rfl,rfl⟩ | ⟨h1,rfl,rfl⟩
 ·exact ⟨by rw [show inB n lo hi=true from by unfold inB;simpa [In] using h1],rfl⟩
 ·exact ⟨by rw [show inB n lo hi=false from by unfold In at h1;unfold inB;rw [Bool.eq_false_iff];simpa using h1],rfl⟩
theorem zOI (n lo hi:Int) (w:World) : Calls Tryz.prog 145 #[.int .i64 n,.int .i64 lo,.int .i64 hi] w fun e w'=>e = .returned (.bool (inB n lo hi))/\Below w.heap.size w w' :=
 (zIA n lo hi w).mono fun _ _ h=>⟨h.1,by rw [h.2];exact Below.refl _ _⟩
def MsOk (ms:List Int) (i:Nat) : Prop:=∀ h:i < ms.length,In ms[i] 1 999/\(∀ h0:0 < i,ms[i - 1] < ms[i])
def zMU (R:List Issue) (hs:List Heap) (i:Nat) : Prop:=∀ h:i < hs.length,zFO R hs[i].d hs[i].l/\hs[i].l < zKG R hs[i].d/\In hs[i].lo 0 200/\In hs[i].hi hs[i].lo 200 /\
 (∀ k,k < i->(hk:k < hs.length)->¬ (hs[k].d=hs[i].d/\hs[k].l=hs[i].l))
def RepOk (R:List Issue) (ms:List Int) (rs:List Report) (i:Nat) : Prop:=∀ h:i < rs.length,zCE R ms rs[i]/\(∀ h0:0 < i,rs[i - 1].num < rs[i].num)
def zCA (b:Built) : Prop:=zKG b.ns.reg b.of≠0/\b.ms.length<=12/\b.hs.length<=4/\b.rs.length<=10/\(∀ i,i < b.ms.length->MsOk b.ms i)/\(∀ i,i < b.hs.length->zMU b.ns.reg b.hs i) /\
 (∀ i,i < b.rs.length->RepOk b.ns.reg b.ms b.rs i)
theorem built08 (w:World) (vr vn vm vh vs:Value) (b:Built) (h:BuiltAt w vr vn vm vh vs b) :
  Calls Tryz.prog 105 #[.agg #[vr,vn,.int .i64 b.of,vm,vh,vs]] w (zAK (zCA b) w):=by
 obtain ⟨ar,capr,rfl,_⟩:=zD h.reg;obtain ⟨an,capn,rfl,_⟩:=zD h.notes;obtain ⟨am,capm,rfl,hmm⟩:=zD h.ms;obtain ⟨ah,caph,rfl,hmh⟩:=zD h.hs;obtain ⟨az,capz,rfl,hmz⟩:=zD h.rs;obtain ⟨hb1,B1,B2⟩:=zJF w #[.slice ar b.ns.reg.length capr,.slice an b.ns.notes.length capn,.int .i64 b.of,.slice am b.ms.length capm,.slice ah b.hs.length caph,.slice az b.rs.length capz] #[.slice ar b.ns.reg.length capr] 32 24;have c0:=B1 0 _ rfl;have c1:=B1 1 _ rfl;have c2:=B1 2 _ rfl;have c3:=B1 3 (.slice am b.ms.length capm) rfl;have c4:=B1 4 (.slice ah b.hs.length caph) rfl;have c5:=B1 5 (.slice az b.rs.length capz) rfl;have r0:=B2 0 (.slice ar b.ns.reg.length capr) rfl;clear B1 B2;have h1:=h.ext hb1;clear h;have K:Hid (zK ((w.alloc (.cells #[.slice ar b.ns.reg.length capr,.slice an b.ns.notes.length capn,.int .i64 b.of,.slice am b.ms.length capm,.slice ah b.hs.length caph,.slice az b.rs.length capz] 32)).alloc (.cells #[.slice ar b.ns.reg.length capr] 24)) w.heap.size 0 (.slice ar b.ns.reg.length capr) /\
  zK ((w.alloc (.cells #[.slice ar b.ns.reg.length capr,.slice an b.ns.notes.length capn,.int .i64 b.of,.slice am b.ms.length capm,.slice ah b.hs.length caph,.slice az b.rs.length capz] 32)).alloc (.cells #[.slice ar b.ns.reg.length capr] 24)) w.heap.size 1 (.slice an b.ns.notes.length capn) /\
  zK ((w.alloc (.cells #[.slice ar b.ns.reg.length capr,.slice an b.ns.notes.length capn,.int .i64 b.of,.slice am b.ms.length capm,.slice ah b.hs.length caph,.slice az b.rs.length capz] 32)).alloc (.cells #[.slice ar b.ns.reg.length capr] 24)) w.heap.size 2 (.int .i64 b.of)):=⟨c0,c1,c2⟩
 have C3:=Lib.hid c3;have C4:=Lib.hid c4;have C5:=Lib.hid c5;have R0:=Lib.hid r0;clear c0 c1 c2;unfold zK at c3 c4 c5 r0;go_enter Tryz.func105,Tryz.ntmps105;go_wp2_with fail;clear c3 c4 c5 r0;generalize (w.alloc _).alloc _=w1 at *;refine (zNJ _ _ b.ns.reg b.of h1.reg).mono ?_;rintro e w2 ⟨rfl,hb2⟩;have hb3:=zA hb1 hb2;have h2:=h1.ext hb2;have c3:=zC hb2 C3.out;have c4:=zC hb2 C4.out;have c5:=zC hb2 C5.out;have D3:=Lib.hid c3;have D4:=Lib.hid c4;have D5:=Lib.hid c5;have DR:=Lib.hid (zC hb2 R0.out);have DK:Hid (zK w2 w.heap.size 0 (.slice ar b.ns.reg.length capr)/\zK w2 w.heap.size 1 (.slice an b.ns.notes.length capn)/\zK w2 w.heap.size 2 (.int .i64 b.of)):=⟨zC hb2 K.out.1,zC hb2 K.out.2.1,zC hb2 K.out.2.2⟩;clear h1 hb1 hb2 C3 C4 C5 R0 K;unfold zK at c3 c4 c5;by_cases l0:(zKG b.ns.reg b.of == 0)=true
 case pos=>go_wp2;go_ret;exact zAK.f (fun h=>h.1 (by simpa using l0)) hb3
 have l0':(zKG b.ns.reg b.of == 0)=false:=by simpa using l0
 by_cases l1:12 < b.ms.length
 case pos=>go_wp2;go_ret;exact zAK.f (fun h=>by have:=h.2.1;omega) hb3
 by_cases l2:4 < b.hs.length
 case pos=>go_wp2;go_ret;exact zAK.f (fun h=>by have:=h.2.2.1;omega) hb3
 by_cases l3:10 < b.rs.length
 case pos=>go_wp2;go_ret;exact zAK.f (fun h=>by have:=h.2.2.2.1;omega) hb3
 have HL:Hid (zKG b.ns.reg b.of≠0/\b.ms.length<=12/\b.hs.length<=4/\b.rs.length<=10):=⟨by simpa using l0',by omega,by omega,by omega⟩;go_wp2;clear c3 c4 c5 l0 l0';go_loopw [4] (fun i wr=>∃ k:Nat,i = .int .i64 k/\k<=b.ms.length/\Below w2.heap.size w2 wr/\∀ j,j < k->MsOk b.ms j) (fun i _=>b.ms.length - (intOf i).toNat)
 case atStart=>exact ⟨0,rfl,by omega,Below.refl _ _,fun j hj=>absurd hj (by omega)⟩
 case round =>
  obtain ⟨k,rfl,hk,hb,hall⟩:=hrel;have HALL:=Lib.hid hall;clear hall;have c3:=zC hb D3.out;unfold zK at c3;by_cases hlt:k < b.ms.length
  ·have hX:=(zY (h2.ext hb).ms).2
   obtain ⟨g,off,rfl,hc,_⟩:=hX k hlt;have hms:Hid (MsOk b.ms k↔In b.ms[k] 1 999/\(∀ h0:0 < k,b.ms[k - 1] < b.ms[k])):=⟨fun h=>h hlt,fun h _=>h⟩;unfold zK at hc;rw [Nat.mul_one] at hc;generalize hm:b.ms[k]=m at *;clear hm;by_cases g1:inB m 1 999=true
   ·by_cases h0:0 < k
    ·obtain ⟨g',off',hgg,hc',_⟩:=hX (k - 1) (by omega)
     cases hgg;unfold zK at hc';rw [Nat.mul_one] at hc';have hms2:Hid (MsOk b.ms k↔In m 1 999/\b.ms[k - 1] < m):=⟨fun h=>⟨(hms.out.1 h).1,(hms.out.1 h).2 h0⟩,fun h=>hms.out.2 ⟨h.1,fun _=>h.2⟩⟩;generalize b.ms[k - 1]=p at *;clear hX;have hz:IntKind.i64.wrap ((k:Int) - 1)=((k - 1:Nat) : Int):=by rw [IntWalk.i64_in _ (by omega)];omega
     have hz2:k - 1 < b.ms.length:=by omega
     by_cases g2:m<=p
     ·go_wp2
      refine wp_region_quiet_lit (by kernel_rfl) (by kernel_rfl) (no_implicit_lambda% ?_);repeat ((with_reducible refine wpQuiet_step (fun K hK=>?_));go_simp;first | ((with_reducible refine hK _ ?_);clear hK K) | (refine hK _ (no_implicit_lambda% ?_);clear hK K) | (apply Exists.intro;(with_reducible refine ⟨fun _=>?_,hK _ ?_⟩);((go_at_call 145;exact Calls.quiet_of_same (zIA _ _ _ _)));clear hK K))
      with_reducible refine wpQuiet_nil ?_
      intro _ hw9;obtain ⟨nq,hw8⟩:=hw9;subst hw8;go_wp2;go_ret;exact zAK.f (fun h=>by have:=(hms2.out.1 (h.2.2.2.2.1 k hlt)).2;omega) (zA hb3 (zA hb (zAJ _ _)))
     ·go_wp2
      refine wp_region_quiet_lit (by kernel_rfl) (by kernel_rfl) (no_implicit_lambda% ?_);repeat ((with_reducible refine wpQuiet_step (fun K hK=>?_));go_simp;first | ((with_reducible refine hK _ ?_);clear hK K) | (refine hK _ (no_implicit_lambda% ?_);clear hK K) | (apply Exists.intro;(with_reducible refine ⟨fun _=>?_,hK _ ?_⟩);((go_at_call 145;exact Calls.quiet_of_same (zIA _ _ _ _)));clear hK K))
      with_reducible refine wpQuiet_nil ?_
      intro _ hw9;obtain ⟨nq,hw8⟩:=hw9;subst hw8;go_wp2;go_roundw
      case rel=>exact ⟨k+1,by go_num,by omega,zA hb (zAJ _ _),zAO _ k HALL.out (hms2.out.2 ⟨zGA g1,by omega⟩)⟩
      case measure=>simp [intOf];omega
    ·clear hX
     go_wp2;refine wp_region_quiet_lit (by kernel_rfl) (by kernel_rfl) (no_implicit_lambda% ?_);repeat ((with_reducible refine wpQuiet_step (fun K hK=>?_));go_simp;first | ((with_reducible refine hK _ ?_);clear hK K) | (refine hK _ (no_implicit_lambda% ?_);clear hK K) | (apply Exists.intro;(with_reducible refine ⟨fun _=>?_,hK _ ?_⟩);((go_at_call 145;exact Calls.quiet_of_same (zIA _ _ _ _)));clear hK K))
     with_reducible refine wpQuiet_nil ?_
     intro _ hw9;obtain ⟨nq,hw8⟩:=hw9;subst hw8;go_wp2;go_roundw
     case rel=>exact ⟨k+1,by go_num,by omega,zA hb (zAJ _ _),zAO _ k HALL.out (hms.out.2 ⟨zGA g1,fun h=>absurd h h0⟩)⟩
     case measure=>simp [intOf];omega
   ·have g1':=zGD g1
    clear hX;go_wp2;refine wp_region_quiet_lit (by kernel_rfl) (by kernel_rfl) (no_implicit_lambda% ?_);repeat ((with_reducible refine wpQuiet_step (fun K hK=>?_));go_simp;first | ((with_reducible refine hK _ ?_);clear hK K) | (refine hK _ (no_implicit_lambda% ?_);clear hK K) | (apply Exists.intro;(with_reducible refine ⟨fun _=>?_,hK _ ?_⟩);((go_at_call 145;exact Calls.quiet_of_same (zIA _ _ _ _)));clear hK K))
    with_reducible refine wpQuiet_nil ?_
    intro _ hw9;obtain ⟨nq,hw8⟩:=hw9;subst hw8;go_wp2;go_ret;exact zAK.f (fun h=>zLW g1 (hms.out.1 (h.2.2.2.2.1 k hlt)).1) (zA hb3 (zA hb (zAJ _ _)))
  ·obtain rfl:k=b.ms.length:=by omega
   have HALL2:Hid (∀ j,j < b.ms.length->MsOk b.ms j):=HALL;clear HALL;have hbx:=hb;have hx:=h2.ext hbx;have c4:=zC hbx D4.out;unfold zK at c4;go_wp2;clear c3 c4;have hw0:=zA hb3 hbx;have E3:=Lib.hid (zC hbx D3.out);have E4:=Lib.hid (zC hbx D4.out);have E5:=Lib.hid (zC hbx D5.out);have ER:=Lib.hid (zC hbx DR.out);have EK:Hid (zK wr w.heap.size 0 (.slice ar b.ns.reg.length capr)/\zK wr w.heap.size 1 (.slice an b.ns.notes.length capn)/\zK wr w.heap.size 2 (.int .i64 b.of)):=⟨zC hbx DK.out.1,zC hbx DK.out.2.1,zC hbx DK.out.2.2⟩;clear D3 D4 D5 DR DK h2 hb hbx hb3 hmm;generalize wr=w3 at *;go_loopw [5] (fun i wr=>∃ k:Nat,i = .int .i64 k/\k<=b.hs.length/\Below w3.heap.size w3 wr/\∀ j,j < k->zMU b.ns.reg b.hs j) (fun i _=>b.hs.length - (intOf i).toNat)
   case atStart=>exact ⟨0,rfl,by omega,Below.refl _ _,fun j hj=>absurd hj (by omega)⟩
   case round =>
    obtain ⟨k,rfl,hk,hb,hall⟩:=hrel;have HALL:=Lib.hid hall;clear hall;have c4:=zC hb E4.out;unfold zK at c4;by_cases hlt:k < b.hs.length
    ·have hX:=(zY (hx.ext hb).hs).2
     obtain ⟨g,off,rfl,⟨⟨q0,q1,q2,q3⟩,_⟩⟩:=hX k hlt;clear hX;have HO:Hid (zMU b.ns.reg b.hs k↔zFO b.ns.reg b.hs[k].d b.hs[k].l/\b.hs[k].l < zKG b.ns.reg b.hs[k].d/\In b.hs[k].lo 0 200/\In b.hs[k].hi b.hs[k].lo 200 /\
      (∀ j,j < k->(hj:j < b.hs.length)->¬ (b.hs[j].d=b.hs[k].d/\b.hs[j].l=b.hs[k].l))):=⟨fun h=>h hlt,fun h _=>h⟩
     generalize b.hs[k]=x at *;have n0:=zR wr #[.int .i64 x.d,.int .i64 x.l,.int .i64 x.lo,.int .i64 x.hi] 42 0 _ rfl;have n1:=zR wr #[.int .i64 x.d,.int .i64 x.l,.int .i64 x.lo,.int .i64 x.hi] 42 1 _ rfl;have n2:=zR wr #[.int .i64 x.d,.int .i64 x.l,.int .i64 x.lo,.int .i64 x.hi] 42 2 _ rfl;have n3:=zR wr #[.int .i64 x.d,.int .i64 x.l,.int .i64 x.lo,.int .i64 x.hi] 42 3 _ rfl;have hbn:=zB wr (.cells #[.int .i64 x.d,.int .i64 x.l,.int .i64 x.lo,.int .i64 x.hi] 42);unfold zK at q0 q1 q2 q3;go_wp2;clear q0 q1 q2 q3 c4;generalize wr.alloc _=wq at *;have hbq:=zA hb hbn;have hR:=sl_later zU (hx.ext hbq).reg;have hc:=zH (zC hbq ER.out);have hn0:=zH n0;have hn1:=zH n1;have hn2:=zH n2;have hn3:=zH n3;have N0:=Lib.hid n0;have N1:=Lib.hid n1;clear n0 n1 n2 n3 hbn hb;have bad:∀ xq,¬ zMU b.ns.reg b.hs k->zAK (zCA b) w (.returned (.bool false)) (wq.later xq):=fun xq hno=>zAK.f (fun h=>hno (h.2.2.2.2.2.1 k hlt)) (zA hw0 (zA hbq (zG wq xq)))
     by_cases p1:zFO b.ns.reg x.d x.l
     case neg =>
      refine zAR (by kernel_rfl) (by kernel_rfl) (no_implicit_lambda% ?_);repeat ((with_reducible refine wpQuiet_step (fun K hK=>?_));go_simp;first | ((with_reducible refine hK _ ?_);clear hK K) | (refine hK _ (no_implicit_lambda% ?_);clear hK K) | (apply Exists.intro;(with_reducible refine ⟨fun _=>?_,hK _ ?_⟩);((go_at_call 146;exact Calls.quiet_later (zAK.no p1 (part08 _ _ _ _ _ (hR _)))));clear hK K))
      with_reducible refine wpQuiet_nil ?_
      intro _ hw9;obtain ⟨xq,hw8⟩:=hw9;subst hw8;go_wp2;go_ret;exact bad _ (fun h=>p1 (HO.out.1 h).1)
     by_cases p2:zKG b.ns.reg x.d<=x.l
     case pos =>
      refine zAR (by kernel_rfl) (by kernel_rfl) (no_implicit_lambda% ?_);repeat ((with_reducible refine wpQuiet_step (fun K hK=>?_));go_simp;first | ((with_reducible refine hK _ ?_);clear hK K) | (refine hK _ (no_implicit_lambda% ?_);clear hK K) | (apply Exists.intro;(with_reducible refine ⟨fun _=>?_,hK _ ?_⟩);(first | (go_at_call 146;exact Calls.quiet_later (zAK.yes p1 (part08 _ _ _ _ _ (hR _)))) | (go_at_call 84;exact Calls.quiet_later (zNJ _ _ _ _ (hR _))));clear hK K))
      with_reducible refine wpQuiet_nil ?_
      intro _ hw9;obtain ⟨xq,hw8⟩:=hw9;subst hw8;go_wp2;go_ret;exact bad _ (fun h=>by have:=(HO.out.1 h).2.1;omega)
     by_cases p3:inB x.lo 0 200=true
     case neg =>
      have p3':=zGD p3;refine zAR (by kernel_rfl) (by kernel_rfl) (no_implicit_lambda% ?_);repeat ((with_reducible refine wpQuiet_step (fun K hK=>?_));go_simp;first | ((with_reducible refine hK _ ?_);clear hK K) | (refine hK _ (no_implicit_lambda% ?_);clear hK K) | (apply Exists.intro;(with_reducible refine ⟨fun _=>?_,hK _ ?_⟩);(first | (go_at_call 146;exact Calls.quiet_later (zAK.yes p1 (part08 _ _ _ _ _ (hR _)))) | (go_at_call 84;exact Calls.quiet_later (zNJ _ _ _ _ (hR _))) | (go_at_call 145;exact Calls.quiet_later (zOI _ _ _ _)));clear hK K))
      with_reducible refine wpQuiet_nil ?_
      intro _ hw9;obtain ⟨xq,hw8⟩:=hw9;subst hw8;go_wp2;go_ret;exact bad _ (fun h=>zLW p3 (HO.out.1 h).2.2.1)
     by_cases p4:inB x.hi x.lo 200=true
     case neg =>
      have p4':=zGD p4;refine zAR (by kernel_rfl) (by kernel_rfl) (no_implicit_lambda% ?_);repeat ((with_reducible refine wpQuiet_step (fun K hK=>?_));go_simp;first | ((with_reducible refine hK _ ?_);clear hK K) | (refine hK _ (no_implicit_lambda% ?_);clear hK K) | (apply Exists.intro;(with_reducible refine ⟨fun _=>?_,hK _ ?_⟩);(first | (go_at_call 146;exact Calls.quiet_later (zAK.yes p1 (part08 _ _ _ _ _ (hR _)))) | (go_at_call 84;exact Calls.quiet_later (zNJ _ _ _ _ (hR _))) | (go_at_call 145;exact Calls.quiet_later (zOI _ _ _ _)));clear hK K))
      with_reducible refine wpQuiet_nil ?_
      intro _ hw9;obtain ⟨xq,hw8⟩:=hw9;subst hw8;go_wp2;go_ret;exact bad _ (fun h=>zLW p4 (HO.out.1 h).2.2.2.1)
     have P:Hid (zFO b.ns.reg x.d x.l/\x.l < zKG b.ns.reg x.d/\In x.lo 0 200/\In x.hi x.lo 200):=⟨p1,by omega,zGA p3,zGA p4⟩;refine zAR (by kernel_rfl) (by kernel_rfl) (no_implicit_lambda% ?_);repeat ((with_reducible refine wpQuiet_step (fun K hK=>?_));go_simp;first | ((with_reducible refine hK _ ?_);clear hK K) | (refine hK _ (no_implicit_lambda% ?_);clear hK K) | (apply Exists.intro;(with_reducible refine ⟨fun _=>?_,hK _ ?_⟩);(first | (go_at_call 146;exact Calls.quiet_later (zAK.yes p1 (part08 _ _ _ _ _ (hR _)))) | (go_at_call 84;exact Calls.quiet_later (zNJ _ _ _ _ (hR _))) | (go_at_call 145;exact Calls.quiet_later (zOI _ _ _ _)));clear hK K))
     with_reducible refine wpQuiet_nil ?_
     intro _ hw9;obtain ⟨xq,hw8⟩:=hw9;subst hw8;go_wp2;clear bad hn0 hn1 hn2 hn3 hc hR p1 p2 p3 p4;have hbz:=zA hbq (zG wq xq);have N0':=Lib.hid (zC (zG wq xq) N0.out);have N1':=Lib.hid (zC (zG wq xq) N1.out);clear N0 N1;generalize wq.later xq=wz at *;go_loopw [7] (fun i wr=>∃ m:Nat,i = .int .i64 m/\m<=k/\Below wz.heap.size wz wr/\∀ j,j < m->(hj:j < b.hs.length)->¬ (b.hs[j].d=x.d/\b.hs[j].l=x.l)) (fun i _=>k - (intOf i).toNat)
     case atStart=>exact ⟨0,rfl,by omega,Below.refl _ _,fun j hj=>absurd hj (by omega)⟩
     case round =>
      obtain ⟨m,rfl,hm,hb5,hall5⟩:=hrel;have HALL5:=Lib.hid hall5;clear hall5;by_cases hlt5:m < k
      ·have c4:=zC hb5 (zC hbz E4.out)
       have n0:=zC hb5 N0'.out;have n1:=zC hb5 N1'.out;obtain ⟨g',off',hgg,⟨⟨q0,q1,_,_⟩,_⟩⟩:=(zY (hx.ext (zA hbz hb5)).hs).2 m (by omega);cases hgg;have HM:Hid (∀ d l:Int,b.hs[m].d=d->b.hs[m].l=l->¬ (d=x.d/\l=x.l)->(∀ j,j < m+1->(hj:j < b.hs.length)->¬ (b.hs[j].d=x.d/\b.hs[j].l=x.l))):=fun d l hd hl hne=>by
        subst hd hl;intro j hj hjl;by_cases hjm:j=m
        ·subst hjm;exact hne
        ·exact HALL5.out j (by omega) hjl
       have HB:Hid (zMU b.ns.reg b.hs k->¬ (b.hs[m].d=x.d/\b.hs[m].l=x.l)):=fun h=>(HO.out.1 h).2.2.2.2 m hlt5 (by omega)
       have hmh5:m < b.hs.length:=by omega
       generalize b.hs[m]=y at *;unfold zK at c4 n0 n1 q0 q1;by_cases e1:(y.d == x.d)=true
       ·by_cases e2:(y.l == x.l)=true
        ·go_wp2
         refine wp_region_quiet_lit (by kernel_rfl) (by kernel_rfl) (no_implicit_lambda% ?_);repeat ((with_reducible refine wpQuiet_step (fun K hK=>?_));go_simp;first | ((with_reducible refine hK _ ?_);clear hK K) | (refine hK _ (no_implicit_lambda% ?_);clear hK K) | (apply Exists.intro;(with_reducible refine ⟨fun _=>?_,hK _ ?_⟩);(fail);clear hK K))
         with_reducible refine wpQuiet_nil ?_
         intro _ hw9;obtain ⟨nq,hw8⟩:=hw9;subst hw8;go_wp2;go_ret;exact zAK.f (fun h=>HB.out (h.2.2.2.2.2.1 k hlt) ⟨by simpa using e1,by simpa using e2⟩) (zA hw0 (zA hbz (zA hb5 (zAJ _ _))))
        ·have e2':(y.l == x.l)=false:=by simpa using e2
         go_wp2;refine wp_region_quiet_lit (by kernel_rfl) (by kernel_rfl) (no_implicit_lambda% ?_);repeat ((with_reducible refine wpQuiet_step (fun K hK=>?_));go_simp;first | ((with_reducible refine hK _ ?_);clear hK K) | (refine hK _ (no_implicit_lambda% ?_);clear hK K) | (apply Exists.intro;(with_reducible refine ⟨fun _=>?_,hK _ ?_⟩);(fail);clear hK K))
         with_reducible refine wpQuiet_nil ?_
         intro _ hw9;obtain ⟨nq,hw8⟩:=hw9;subst hw8;go_wp2;go_roundw
         case rel=>exact ⟨m+1,by go_num,by omega,zA hb5 (zAJ _ _),HM.out _ _ rfl rfl (fun h=>by simp [h.2] at e2)⟩
         case measure=>simp [intOf];omega
       ·have e1':(y.d == x.d)=false:=by simpa using e1
        go_wp2;refine wp_region_quiet_lit (by kernel_rfl) (by kernel_rfl) (no_implicit_lambda% ?_);repeat ((with_reducible refine wpQuiet_step (fun K hK=>?_));go_simp;first | ((with_reducible refine hK _ ?_);clear hK K) | (refine hK _ (no_implicit_lambda% ?_);clear hK K) | (apply Exists.intro;(with_reducible refine ⟨fun _=>?_,hK _ ?_⟩);(fail);clear hK K))
        with_reducible refine wpQuiet_nil ?_
        intro _ hw9;obtain ⟨nq,hw8⟩:=hw9;subst hw8;go_wp2;go_roundw
        case rel=>exact ⟨m+1,by go_num,by omega,zA hb5 (zAJ _ _),HM.out _ _ rfl rfl (fun h=>by simp [h.1] at e1)⟩
        case measure=>simp [intOf];omega
      ·have hmk:m=k:=by omega
       subst hmk;go_wp2;go_roundw
       case rel=>exact ⟨m+1,by go_num,by omega,zA hbz hb5,zAO _ m HALL.out (HO.out.2 ⟨P.out.1,P.out.2.1,P.out.2.2.1,P.out.2.2.2,HALL5.out⟩)⟩
       case measure=>simp [intOf];omega
    ·obtain rfl:k=b.hs.length:=by omega
     have HALL3:Hid (∀ j,j < b.hs.length->zMU b.ns.reg b.hs j):=HALL;clear HALL;have hx6:=hx.ext hb;have F5:=Lib.hid (zC hb E5.out);have FC:=(⟨zC hb EK.out.1,zC hb EK.out.2.1,zC hb EK.out.2.2,zC hb E3.out,zC hb E4.out⟩ : zK wr w.heap.size 0 (.slice ar b.ns.reg.length capr)/\zK wr w.heap.size 1 (.slice an b.ns.notes.length capn)/\zK wr w.heap.size 2 (.int .i64 b.of)/\zK wr w.heap.size 3 (.slice am b.ms.length capm)/\zK wr w.heap.size 4 (.slice ah b.hs.length caph));have FK:=Lib.hid FC;have hw6:=zA hw0 hb;clear FC;go_wp2;clear c4 E3 E4 E5 ER EK hx hb hw0;generalize wr=w6 at *;go_loopw [8] (fun i wr=>∃ k:Nat,i = .int .i64 k/\k<=b.rs.length/\Below w6.heap.size w6 wr/\∀ j,j < k->RepOk b.ns.reg b.ms b.rs j) (fun i _=>b.rs.length - (intOf i).toNat)
     case atStart=>exact ⟨0,rfl,by omega,Below.refl _ _,fun j hj=>absurd hj (by omega)⟩
     case round =>
      obtain ⟨k,rfl,hk,hb,hall⟩:=hrel;have HALL:=Lib.hid hall;clear hall;have c5:=zC hb F5.out;by_cases hlt:k < b.rs.length
      ·unfold zK at c5
       have hBr:=hx6.ext hb;have hBx:∀ y,BuiltAt (wr.later y) (.slice ar b.ns.reg.length capr) (.slice an b.ns.notes.length capn) (.slice am b.ms.length capm) (.slice ah b.hs.length caph) (.slice az b.rs.length capz) b:=fun y=>hBr.ext (zG wr y)
       have k0:=zH (zC hb FK.out.1);have k1:=zH (zC hb FK.out.2.1);have k2:=zH (zC hb FK.out.2.2.1);have k3:=zH (zC hb FK.out.2.2.2.1);have k4:=zH (zC hb FK.out.2.2.2.2);have k5:=zH (zC hb F5.out);have hX:=(zY hBr.rs).2;obtain ⟨g,off,rfl,⟨⟨q0,q1,q2,q3,q4⟩,hI⟩⟩:=hX k hlt;have hU:=hI.2.2.2.2;have HO:Hid (RepOk b.ns.reg b.ms b.rs k↔zCE b.ns.reg b.ms b.rs[k]/\∀ h0:0 < k,b.rs[k - 1].num < b.rs[k].num):=⟨fun h=>h hlt,fun h _=>h⟩;have HP:Hid (∀ h0:0 < k,∀ y,(wr.later y).cell? ⟨g,off+(k - 1)*5,none⟩=some (.int .i64 b.rs[k - 1].num)):=fun h0=>by
        obtain ⟨g',off',hgg,⟨⟨p0,_⟩,_⟩⟩:=hX (k - 1) (by omega);cases hgg;exact zH p0
       clear hX hI hBr hx6;generalize b.rs[k]=x at *;have j0:=zH q0;have j1:=zH q1;have j2:=zH q2;have j3:=zH q3;have j4:=zH q4;clear q0 q1 q2 q3 q4;have bad:∀ xq,¬ RepOk b.ns.reg b.ms b.rs k->zAK (zCA b) w (.returned (.bool false)) (wr.later xq):=fun xq hno=>zAK.f (fun h=>hno (h.2.2.2.2.2.2 k hlt)) (zA hw6 (zA hb (zG wr xq)))
       by_cases r1:zCE b.ns.reg b.ms x
       case neg =>
        clear HP;go_wp2;refine zAR (by kernel_rfl) (by kernel_rfl) (no_implicit_lambda% ?_);repeat ((with_reducible refine wpQuiet_step (fun K hK=>?_));go_simp;first | ((with_reducible refine hK _ ?_);clear hK K) | (refine hK _ (no_implicit_lambda% ?_);clear hK K) | (apply Exists.intro;(with_reducible refine ⟨fun _=>?_,hK _ ?_⟩);((go_at_call 147;exact Calls.quiet_later (zAK.no r1 (zQT _ _ _ _ _ _ _ x (hBx _) hU))));clear hK K))
        with_reducible refine wpQuiet_nil ?_
        intro _ hw9;obtain ⟨xq,hw8⟩:=hw9;subst hw8;go_wp2;go_ret;exact bad _ (fun h=>r1 (HO.out.1 h).1)
       by_cases h0:0 < k
       case neg =>
        clear HP;obtain rfl:k=0:=by omega
        simp only [Nat.zero_mul,Nat.add_zero] at j0 j1 j2 j3 j4;go_wp2;refine zAR (by kernel_rfl) (by kernel_rfl) (no_implicit_lambda% ?_);repeat ((with_reducible refine wpQuiet_step (fun K hK=>?_));go_simp;first | ((with_reducible refine hK _ ?_);clear hK K) | (refine hK _ (no_implicit_lambda% ?_);clear hK K) | (apply Exists.intro;(with_reducible refine ⟨fun _=>?_,hK _ ?_⟩);((go_at_call 147;exact Calls.quiet_later (zAK.yes r1 (zQT _ _ _ _ _ _ _ x (hBx _) hU))));clear hK K))
        with_reducible refine wpQuiet_nil ?_
        intro _ hw9;obtain ⟨xq,hw8⟩:=hw9;subst hw8;go_wp2;go_roundw
        case rel=>exact ⟨0+1,by go_num,by omega,zA hb (zG wr xq),zAO _ 0 HALL.out (HO.out.2 ⟨r1,fun h=>absurd h h0⟩)⟩
        case measure=>simp [intOf];omega
       have jp:=HP.out h0;have hz:IntKind.i64.wrap ((k:Int) - 1)=((k - 1:Nat) : Int):=by rw [IntWalk.i64_in _ (by omega)];omega
       have hz2:k - 1 < b.rs.length:=by omega
       have HO2:Hid (RepOk b.ns.reg b.ms b.rs k↔zCE b.ns.reg b.ms x/\b.rs[k - 1].num < x.num):=⟨fun h=>⟨(HO.out.1 h).1,(HO.out.1 h).2 h0⟩,fun h=>HO.out.2 ⟨h.1,fun _=>h.2⟩⟩;clear HP HO;generalize b.rs[k - 1]=p at *;by_cases r2:x.num<=p.num
       case pos =>
        go_wp2;refine zAR (by kernel_rfl) (by kernel_rfl) (no_implicit_lambda% ?_);repeat ((with_reducible refine wpQuiet_step (fun K hK=>?_));go_simp;first | ((with_reducible refine hK _ ?_);clear hK K) | (refine hK _ (no_implicit_lambda% ?_);clear hK K) | (apply Exists.intro;(with_reducible refine ⟨fun _=>?_,hK _ ?_⟩);((go_at_call 147;exact Calls.quiet_later (zAK.yes r1 (zQT _ _ _ _ _ _ _ x (hBx _) hU))));clear hK K))
        with_reducible refine wpQuiet_nil ?_
        intro _ hw9;obtain ⟨xq,hw8⟩:=hw9;subst hw8;go_wp2;go_ret;exact bad _ (fun h=>by have:=(HO2.out.1 h).2;omega)
       go_wp2;refine zAR (by kernel_rfl) (by kernel_rfl) (no_implicit_lambda% ?_);repeat ((with_reducible refine wpQuiet_step (fun K hK=>?_));go_simp;first | ((with_reducible refine hK _ ?_);clear hK K) | (refine hK _ (no_implicit_lambda% ?_);clear hK K) | (apply Exists.intro;(with_reducible refine ⟨fun _=>?_,hK _ ?_⟩);((go_at_call 147;exact Calls.quiet_later (zAK.yes r1 (zQT _ _ _ _ _ _ _ x (hBx _) hU))));clear hK K))
       with_reducible refine wpQuiet_nil ?_
       intro _ hw9;obtain ⟨xq,hw8⟩:=hw9;subst hw8;go_wp2;go_roundw
       case rel=>exact ⟨k+1,by go_num,by omega,zA hb (zG wr xq),zAO _ k HALL.out (HO2.out.2 ⟨r1,by omega⟩)⟩
       case measure=>simp [intOf];omega
      ·obtain rfl:k=b.rs.length:=by omega
       unfold zK at c5;go_wp2;go_ret;exact zAK.t ⟨HL.out.1,HL.out.2.1,HL.out.2.2.1,HL.out.2.2.2,HALL2.out,HALL3.out,HALL.out⟩ (zA hw6 hb)
end
end Go.Proofs.YtipaopbmklbmnaaGreatDoor
