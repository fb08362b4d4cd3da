/- The looks that a note gets. -/
import Derived.Test.YtpolpdegpbahiaaGreatDoorM05
import Derived.Test.YtpolpdegpbahiaaGreatDoorM08
import Derived.Test.YtpolpdegpbahiaaGreatDoorM58
import Derived.Test.YtpolpdegpbahiaaGreatDoorM59
import Derived.Test.YtpolpdegpbahiaaGreatDoorM62
import Derived.Test.YtpolpdegpbahiaaGreatDoorM63
set_option linter.all false
set_option maxRecDepth 100000
set_option maxHeartbeats 12800000

namespace Go.Proofs.YtpolpdegpbahiaaGreatDoor
open Tryz
section
open Go.RowKit Go.Shelf
attribute [local go_sem] zAN Oper.grows Oper.growUpon
open Classical in
noncomputable def zBH (b:Built) : List (List Int):=if h:∃ A,zJB b A then h.choose else []
theorem zRZ {b:Built} {A:List (List Int)} (h:zJB b A) : zBH b=A:=by
 have h1:∃ A,zJB b A:=⟨A,h⟩
 unfold zBH
 rw [dif_pos h1]
 exact h1.choose_spec.eq h
open Classical in
noncomputable def zBA (b:Built) (m:Int) : Int:=if zM b≠0 then zM b else if m ∉ b.ms then 2 else if zBH b=[] then 8 else 0
theorem asked08 (w:World) (vr vn vm vh vz:Value) (b:Built) (m:Int) (hB:BuiltAt w vr vn vm vh vz b) :
  Calls prog 44 #[.agg #[vr,vn,.int .i64 b.of,vm,vh,vz],.int .i64 m] w fun e w'=>∃ u,e = .returned (.tuple #[u,.int .i64 (zBA b m)])∧(zM b=0→m∈b.ms→zJB b (zBH b)∧(zBH b).length≤32∧(zBA b m=0→Sl zKW 1 w' u (zBH b)))∧Below w.heap.size w w':=by
 have hb1:=zB w (.cells #[vr,vn,.int .i64 b.of,vm,vh,vz] 32)
 have HBOX:=zF (zHC w vr vn vm vh vz b.of 32)
 have HB:=zF (hB.ext hb1)
 clear hB
 have c0:=HBOX.out.c0
 have c1:=HBOX.out.c1
 have c2:=HBOX.out.c2
 have c3:=HBOX.out.c3
 have c4:=HBOX.out.c4
 have c5:=HBOX.out.c5
 unfold zJ at c0 c1 c2 c3 c4 c5
 go_enter func44,ntmps44
 go_wp2_with fail
 clear c0 c1 c2 c3 c4 c5
 generalize w.alloc _=wa at *
 refine (check08 _ _ _ _ _ _ b HB.out).mono ?_
 rintro e w2 ⟨rfl,hb2⟩
 have HB2:=zF (HB.out.ext hb2)
 have HX2:=zF (HBOX.out.ext hb2)
 have HW2:=zF (zA hb1 hb2)
 clear HB HBOX hb1 hb2
 by_cases hv:zM b=0
 case neg =>
  have hne:(zM b != 0)=true:=by simpa using hv
  have hask:Hid (zBA b m=zM b):=by unfold Hid zBA;rw [if_pos hv]
  have HV:=zF hv
  go_wp2
  go_ret2
  exact ⟨_,by rw [hask.out];rfl,fun h=>absurd h HV.out,HW2.out⟩
 case pos =>
  rw [hv]
  have HV:=zF hv
  clear hv
  have c3:=HX2.out.c3
  unfold zJ at c3
  go_wp2_with fail
  clear c3
  refine (zLY _ _ b.ms m HB2.out.ms).mono ?_
  rintro e w3 ⟨rfl,rfl⟩
  by_cases hm:m∈b.ms
  case neg =>
   have hi:=zPJ b.ms m hm
   have hask:Hid (zBA b m=2):=by unfold Hid zBA;rw [if_neg (by simp [HV.out]),if_pos hm]
   have HM:=zF hm
   clear hm
   go_wp2
   go_ret2
   exact ⟨_,by rw [hask.out];rfl,fun _ h=>absurd h HM.out,HW2.out⟩
  case pos =>
   have hi:=idxI_in b.ms m hm
   have hi2:¬ (zJA b.ms m < 0):=by omega
   have HM:=zF hm
   clear hm hi
   have hr10:b.rs.length≤10:=(zW HV.out).2.2.2.2.1
   go_wp2
   clear hi2
   have k0:=zG HX2.out.c0
   have k1:=zG HX2.out.c1
   have k2:=zG HX2.out.c2
   have k3:=zG HX2.out.c3
   have k4:=zG HX2.out.c4
   have k5:=zG HX2.out.c5
   refine zK 4 (by kernel_rfl) (by kernel_rfl) ?_
   simp only [tk_]
   iterate 2 (apply gx_;focus (intro vs xq hd;(try simp [hq_] at hd);simp only [pf_];go_simp;exact ⟨br_,rfl⟩))
   refine zAE ?_
   apply Exists.intro
   refine ⟨fun vs xq hd=>?_,?_⟩
   ·(try simp [hq_] at hd)
    simp only [pf_]
    go_simp
    refine (zRE (w2.later xq) vr vn vm vh vz b.of b.rs (HB2.out.ext (zE w2 xq)).rs (by omega)).mono ?_
    rintro e w9 ⟨rfl,hb9⟩
    exact ⟨rfl,hb9⟩
   refine zL (fun v w'=>Hid (zJB b (zBH b)∧(zBH b).length≤32∧Sl zKW 1 w' v (zBH b))) (fun v w w' hb h=>zF ⟨h.out.1,h.out.2.1,zI zCC hb h.out.2.2⟩) ?_ ?_
   ·intro vs xq hd
    (try simp [hq_] at hd)
    simp only [pf_]
    go_simp
    refine (truths08 (w2.later xq) vr vn vm vh vz b (HB2.out.ext (zE w2 xq)) HV.out).mono ?_
    rintro e w9 ⟨u,A,rfl,hA,hl,hs,hb⟩
    have e:=zRZ hA
    exact ⟨u,rfl,hb,zF (by rw [e];exact ⟨hA,hl,hs⟩)⟩
   refine zT rfl (fun vs xq hd=>?_)
   simp [zV,zAD,List.range,List.range.loop] at hd
   simp only [pf_]
   obtain ⟨e0,e1,e2,h3⟩:=hd
   simp only [Nat.zero_add,Nat.reduceAdd] at e0 e1 e2 ⊢
   simp only [e0,e1,e2]
   have hb8:=zF (zA HW2.out (zE w2 xq))
   clear e0 e1 e2 k0 k1 k2 k3 k4 k5
   generalize vs 3=v3 at *
   generalize w2.later xq=w8 at *
   obtain ⟨a3,c3,rfl,_⟩:=zD h3.out.2.2
   by_cases hl:zBH b=[]
   case pos =>
    have hask:Hid (zBA b m=8):=by unfold Hid zBA;rw [if_neg (by simp [HV.out]),if_neg (by simpa using HM.out),if_pos hl]
    have hl0:(zBH b).length=0:=by rw [hl];rfl
    have HL:=zF hl
    clear hl
    go_wp2
    go_ret2
    exact ⟨_,by rw [hask.out];rfl,fun _ _=>⟨h3.out.1,h3.out.2.1,fun h=>by rw [hask.out] at h;cases h⟩,hb8.out⟩
   case neg =>
    have hask:Hid (zBA b m=0):=by unfold Hid zBA;rw [if_neg (by simp [HV.out]),if_neg (by simpa using HM.out),if_neg hl]
    have hl0:0 < (zBH b).length:=List.length_pos_iff.2 hl
    have hl1:¬ (((zBH b).length:Int)=0):=by omega
    clear hl
    go_wp2
    go_ret2
    exact ⟨_,by rw [hask.out];rfl,fun _ _=>⟨h3.out.1,h3.out.2.1,fun _=>h3.out.2.2⟩,hb8.out⟩
end
section
def zCG:List Int→Span
 | []=>⟨0,0⟩
 | x :: r=>⟨r.foldl min x,r.foldl max x⟩
theorem foldl_min (r:List Int) (x:Int) : (r.foldl min x=x∨r.foldl min x∈r)∧r.foldl min x≤x∧∀ y∈r,r.foldl min x≤y:=by
 induction r generalizing x with
 | nil=>simp
 | cons a r ih =>
   rw [List.foldl_cons]
   obtain ⟨h1,h2,h3⟩:=ih (min x a)
   refine ⟨?_,by omega,fun y hy=>?_⟩
   ·rcases h1 with h | h
    ·rcases Int.le_total x a with hh | hh
     ·left;rw [h];omega
     ·right;rw [h,Int.min_eq_right hh];exact List.mem_cons_self ..
    ·exact .inr (List.mem_cons_of_mem _ h)
   ·rcases List.mem_cons.1 hy with rfl | hy
    ·omega
    ·exact h3 y hy
theorem foldl_max (r:List Int) (x:Int) : (r.foldl max x=x∨r.foldl max x∈r)∧x≤r.foldl max x∧∀ y∈r,y≤r.foldl max x:=by
 induction r generalizing x with
 | nil=>simp
 | cons a r ih =>
   rw [List.foldl_cons]
   obtain ⟨h1,h2,h3⟩:=ih (max x a)
   refine ⟨?_,by omega,fun y hy=>?_⟩
   ·rcases h1 with h | h
    ·rcases Int.le_total x a with hh | hh
     ·right;rw [h,Int.max_eq_right hh];exact List.mem_cons_self ..
     ·left;rw [h];omega
    ·exact .inr (List.mem_cons_of_mem _ h)
   ·rcases List.mem_cons.1 hy with rfl | hy
    ·omega
    ·exact h3 y hy
theorem zJS {xs:List Int} (h:xs≠[]) : (zCG xs).lo∈xs∧(zCG xs).hi∈xs∧∀ y∈xs,(zCG xs).has y:=by
 cases xs with
 | nil=>exact absurd rfl h
 | cons x r =>
   obtain ⟨h1,h2,h3⟩:=foldl_min r x
   obtain ⟨g1,g2,g3⟩:=foldl_max r x
   refine ⟨?_,?_,fun y hy=>?_⟩
   ·simp only [zCG]
    rcases h1 with h | h
    ·rw [h];exact List.mem_cons_self ..
    ·exact List.mem_cons_of_mem _ h
   ·simp only [zCG]
    rcases g1 with h | h
    ·rw [h];exact List.mem_cons_self ..
    ·exact List.mem_cons_of_mem _ h
   ·simp only [zCG,Span.has]
    rcases List.mem_cons.1 hy with rfl | hy
    ·exact ⟨h2,g2⟩
    ·exact ⟨h3 y hy,g3 y hy⟩
theorem spanOf_eq {xs ys:List Int} (h:∀ y,y∈xs↔y∈ys) : zCG xs=zCG ys:=by
 by_cases hx:xs=[]
 ·subst hx
  have:ys=[]:=List.eq_nil_iff_forall_not_mem.2 fun y hy=>by simpa using (h y).2 hy
  rw [this]
 ·have hy:ys≠[]:=by
   intro e
   subst e
   exact hx (List.eq_nil_iff_forall_not_mem.2 fun y hy=>by simpa using (h y).1 hy)
  obtain ⟨a1,a2,a3⟩:=zJS hx
  obtain ⟨b1,b2,b3⟩:=zJS hy
  have c1:=b3 _ ((h _).1 a1)
  have c2:=b3 _ ((h _).1 a2)
  have c3:=a3 _ ((h _).2 b1)
  have c4:=a3 _ ((h _).2 b2)
  generalize zCG xs=s at *
  generalize zCG ys=t at *
  obtain ⟨sl,sh⟩:=s
  obtain ⟨tl,th⟩:=t
  simp only [Span.has,Span.mk.injEq] at *
  omega
theorem zLT {xs:List Int} (h:xs≠[]) (x:Int) : zCG (xs++[x])=⟨min (zCG xs).lo x,max (zCG xs).hi x⟩:=by
 cases xs with
 | nil=>exact absurd rfl h
 | cons a r=>simp [zCG,List.foldl_append]
theorem spanOf_le {xs:List Int} (h:xs≠[]) : (zCG xs).lo≤(zCG xs).hi:=by
 obtain ⟨a1,_,a3⟩:=zJS h
 exact (a3 _ a1).2
noncomputable def zPA (b:Built) (S:List Int) (m d l:Int) : List Int :=
 let x:=zAB b S m d
 let s:=if x.h < 0 then (⟨0,0⟩ : Span) else (zGB b S x.h.toNat).getD ⟨0,0⟩
 let o:=fun n:Int=>if x.h < 0 then 0 else zPD (zES b S x.h.toNat (b.ms.idxOf m)) x.c n
 [zDL x l (o s.lo),zDL x l (o s.hi)]
noncomputable def zAT (b:Built) (T:List (List Int)) (m d l:Int) : Span:=zCG (T.flatMap fun S=>zPA b S m d l)
end
section
theorem ends_succ (f g:List Int→Int) (A:List (List Int)) (k:Nat) (hk:k < A.length) :
  zCG ((A.take (k+1)).flatMap fun S=>[f S,g S])=zFR (zFR (zCG ((A.take k).flatMap fun S=>[f S,g S])) (decide (k > 0)) (f A[k])) true (g A[k]):=by
 rw [List.take_succ_eq_append_getElem hk,List.flatMap_append,List.flatMap_singleton]
 have e:∀ (xs:List Int) (a c:Int),xs++[a,c]=(xs++[a])++[c]:=fun xs a c=>by simp
 rw [e,zLT (by simp)]
 by_cases h0:k=0
 ·subst h0
  simp [zFR,show ∀ x:Int,zCG [x]=⟨x,x⟩ from fun _=>rfl]
 ·have hne:(A.take k).flatMap (fun S=>[f S,g S])≠[]:=by
   intro he
   obtain ⟨j,rfl⟩ : ∃ j,k=j+1:=⟨k - 1,by omega⟩
   rw [List.take_succ_eq_append_getElem (by omega),List.flatMap_append,List.flatMap_singleton] at he
   have hl:=congrArg List.length he
   simp at hl
  rw [zLT hne]
  simp [zFR,h0,Nat.pos_of_ne_zero h0]
noncomputable def cntS (b:Built) (S:List Int) (k:Nat) : Span:=(zGB b S k).getD ⟨0,0⟩
theorem cntS_bd {b:Built} (h:zM b=0) {S:List Int} (hL:zII b S) {k:Nat} (hk:k < b.hs.length) : (0≤(cntS b S k).lo∧(cntS b S k).lo≤200)∧0≤(cntS b S k).hi∧(cntS b S k).hi≤200:=by
 unfold cntS
 cases hs:siteL b S with
 | none=>exact absurd hL (left_none h hs)
 | some L =>
   obtain ⟨_,hl,hc⟩:=zRJ h hs
   obtain ⟨h1,h2,h3⟩:=hc k (by omega)
   have h4:=h3 hk
   have h5:=zDP h hk
   rw [h1]
   simp only [Option.getD_some]
   omega
noncomputable def uTo (b:Built) (A:List (List Int)) (k j:Nat) : Span:=zCG ((A.take j).flatMap fun S=>[zQC b S k (cntS b S k).lo,zQC b S k (cntS b S k).hi])
theorem uTo_zero (b:Built) (A:List (List Int)) (k:Nat) : uTo b A k 0=⟨0,0⟩:=rfl
theorem uTo_succ {b:Built} {A:List (List Int)} {k j:Nat} (hj:j < A.length) :
  uTo b A k (j+1)=zFR (zFR (uTo b A k j) (decide (j > 0)) (zQC b A[j] k (cntS b A[j] k).lo)) true (zQC b A[j] k (cntS b A[j] k).hi):=ends_succ _ _ A j hj
open Classical in
noncomputable def untC (b:Built) (h:Int) : Int:=if zM b≠0 then zM b else if ¬ In h 0 ((b.hs.length:Int) - 1) then 2 else if zBH b=[] then 8 else 0
noncomputable def zRV (b:Built) (h:Int) : Span:=if untC b h=0 then uTo b (zBH b) h.toNat (zBH b).length else ⟨0,0⟩
theorem unt_of {b:Built} {h c:Int} (e:untC b h=c) (hc:c≠0) : untC b h=c∧zRV b h=⟨0,0⟩:=⟨e,by unfold zRV;rw [if_neg (by omega)]⟩
theorem unt_bad {b:Built} {h:Int} (hv:zM b≠0) : untC b h=zM b∧zRV b h=⟨0,0⟩:=unt_of (by unfold untC;rw [if_pos hv]) hv
theorem unt_arg {b:Built} {h:Int} (hv:zM b=0) (hh:¬ In h 0 ((b.hs.length:Int) - 1)) : untC b h=2∧zRV b h=⟨0,0⟩:=unt_of (by unfold untC;rw [if_neg (by simp [hv]),if_pos hh]) (by decide)
theorem unt_no {b:Built} {h:Int} (hv:zM b=0) (hh:In h 0 ((b.hs.length:Int) - 1)) (hl:zBH b=[]) : untC b h=8∧zRV b h=⟨0,0⟩:=unt_of (by unfold untC;rw [if_neg (by simp [hv]),if_neg (by simpa using hh),if_pos hl]) (by decide)
theorem unt_ok {b:Built} {k:Nat} (hv:zM b=0) (hh:In (k:Int) 0 ((b.hs.length:Int) - 1)) (hl:zBH b≠[]) : untC b k=0∧zRV b k=uTo b (zBH b) k (zBH b).length:=by
 have e:untC b k=0:=by unfold untC;rw [if_neg (by simp [hv]),if_neg (by simpa using hh),if_neg hl]
 exact ⟨e,by unfold zRV;rw [if_pos e];rfl⟩
end
section
open Go.RowKit
def zMV (b:Built) (S:List Int) (m:Int) (d:Int) (k:Nat) : Int:=zCF b.hs d (zQ S m b.ns.notes d) (zHW b.ns.notes (zFO S m b.ns.notes d)) k
def bfAt (b:Built) (S:List Int) (i:Nat) (h:Int) : Int:=if 0≤h then zES b S h.toNat i else 0
def hasC (c l h bf:Int) : Value:=.agg #[.int .i64 c,.int .i64 l,.int .i64 h,.int .i64 bf]
def vis2 (b:Built) (S:List Int) (m:Int) (D:List Int) (d:Int) : Option Value:=if d∈D then some (hasC 0 (zQ S m b.ns.notes d) (-1) 0) else none
def vis4 (b:Built) (S:List Int) (m:Int) (L:List Item) (j:Nat) (d:Int) : Option Value:=if d∈nums b.ns.reg then some (hasC (zMG L d j) (zQ S m b.ns.notes d) (-1) 0) else none
def vis6 (b:Built) (S:List Int) (m:Int) (i k:Nat) (d:Int) : Option Value:=if d∈nums b.ns.reg then some (hasC (zEJ b.ns.reg (zQ S m b.ns.notes) b.of d) (zQ S m b.ns.notes d) (zMV b S m d k) (bfAt b S i (zMV b S m d k))) else none
def visF (b:Built) (S:List Int) (i:Nat) (d:Int) : Option Value:=if d∈nums b.ns.reg then
 some (hasC (zAB b S ((b.ms[i]?).getD 0) d).c (zAB b S ((b.ms[i]?).getD 0) d).l (zAB b S ((b.ms[i]?).getD 0) d).h (bfAt b S i (zAB b S ((b.ms[i]?).getD 0) d).h)) else none
theorem visF_is {b:Built} {S:List Int} {i:Nat} {m:Int} (hm:b.ms[i]? = some m) : vis6 b S m i b.hs.length=visF b S i:=by
 funext d
 unfold vis6 visF zMV
 rw [hm]
 rfl
theorem vis6_zero {b:Built} (h:zM b=0) (S:List Int) (m:Int) (i:Nat) : vis4 b S m (zEQ b.ns.reg (zQ S m b.ns.notes) b.of) (zEQ b.ns.reg (zQ S m b.ns.notes) b.of).length=vis6 b S m i 0:=by
 funext d
 unfold vis4 vis6
 by_cases hd:d∈nums b.ns.reg
 ·rw [if_pos hd,if_pos hd]
  congr 1
  unfold zEQ
  rw [lastC_pos hd (cnt_bd (zAS (zW h).1).1 _ (zKD h) d).1]
  rfl
 ·rw [if_neg hd,if_neg hd]
theorem heap_one {b:Built} (h:zM b=0) {i j:Nat} (hi:i < j) (hj:j < b.hs.length) : ¬ (b.hs[i].d=b.hs[j].d∧b.hs[i].l=b.hs[j].l):=by
 have:=(zW h).2.2.2.2.2.2.1 j hj hj
 exact this.2.2.2.2 i hi (by omega)
theorem zMO {b:Built} {S:List Int} {m d:Int} {k:Nat} : zMV b S m d (k+1)=if zHW b.ns.notes (zFO S m b.ns.notes d)=true∧(∃ h:k < b.hs.length,b.hs[k].d=d∧b.hs[k].l=zQ S m b.ns.notes d - 1) then (k:Int) else zMV b S m d k:=rfl
theorem hpTo_after {b:Built} (h:zM b=0) {S:List Int} {m d:Int} {k:Nat} (hk:k < b.hs.length) (hp:zMV b S m d (k+1)=k) : ∀ j,k < j→zMV b S m d j=k:=by
 have hm:zHW b.ns.notes (zFO S m b.ns.notes d)=true∧(∃ h:k < b.hs.length,b.hs[k].d=d∧b.hs[k].l=zQ S m b.ns.notes d - 1):=by
  rw [zMO] at hp
  split at hp
  ·assumption
  ·have:=(zJE b.hs d (zQ S m b.ns.notes d) (zHW b.ns.notes (zFO S m b.ns.notes d)) k).2
   unfold zMV at hp
   omega
 intro j
 induction j with
 | zero=>intro h;omega
 | succ j ih =>
   intro hj
   by_cases e:k=j
   ·subst e;exact hp
   ·rw [zMO,if_neg,ih (by omega)]
    rintro ⟨_,hjl,h1,h2⟩
    obtain ⟨_,_,h3,h4⟩:=hm
    exact heap_one h (show k < j by omega) hjl ⟨by rw [h3,h1],by rw [h4,h2]⟩
theorem takeB_step {b:Built} (h:zM b=0) {S:List Int} {m:Int} {k:Nat} (hk:k < b.hs.length) : zKM b S k m=if zMV b S m b.hs[k].d (k+1)=k then zEJ b.ns.reg (zQ S m b.ns.notes) b.of b.hs[k].d else 0:=by
 have e:(b.hs[k]?).elim 0 (·.d)=b.hs[k].d:=by rw [List.getElem?_eq_getElem hk];rfl
 unfold zKM
 rw [e]
 have hfull:(zAB b S m b.hs[k].d).h=zMV b S m b.hs[k].d b.hs.length:=rfl
 have hc:(zAB b S m b.hs[k].d).c=zEJ b.ns.reg (zQ S m b.ns.notes) b.of b.hs[k].d:=rfl
 rw [hfull,hc]
 by_cases hp:zMV b S m b.hs[k].d (k+1)=k
 ·rw [if_pos hp,if_pos (hpTo_after h hk hp _ hk)]
 ·rw [if_neg hp,if_neg]
  intro hf
  apply hp
  obtain ⟨hu,hj,h1,h2⟩:=heapTo_at hf
  rw [zMO,if_pos ⟨hu,hj,h1,h2⟩]
def zPI (b:Built) (S:List Int) (i k j:Nat) : Int:=if j < k then zES b S j (i+1) else zES b S j i
theorem tkTo_zero (b:Built) (S:List Int) (i:Nat) : zPI b S i 0=fun j=>zES b S j i:=by funext j;unfold zPI;rw [if_neg (by omega)]
theorem tkTo_all {b:Built} {S:List Int} {i j:Nat} (hj:j < b.hs.length) : zPI b S i b.hs.length j=zES b S j (i+1):=by unfold zPI;rw [if_pos hj]
theorem zNK {b:Built} {S:List Int} {i k:Nat} {m:Int} (hm:b.ms[i]? = some m) : zES b S k (i+1)=zES b S k i+zKM b S k m:=by
 simp only [zES]
 rw [hm]
 rfl
end
section
open Go.RowKit Go.Shelf
attribute [local go_sem] zAN Oper.grows Oper.growUpon
theorem sl_take {α:Type} {E:World→Nat→Nat→α→Prop} {sz:Nat} {w:World} {a:Option Addr} {n c:Nat} {xs:List α} (h:Sl E sz w (.slice a n c) xs) (i c':Nat) (hi:i≤xs.length) : Sl E sz w (.slice a i c') (xs.take i):=by
 obtain ⟨a',cap,e,hm,hc⟩:=h
 cases e
 refine ⟨a,c',by rw [List.length_take,Nat.min_eq_left hi],by rw [List.length_take];omega,fun k hk=>?_⟩
 rw [List.length_take] at hk
 obtain ⟨b,off,ha,he⟩:=hc k (by omega)
 exact ⟨b,off,ha,by rw [List.getElem_take];exact he⟩
theorem zMZ (w:World) (lo hi x:Int) (v:Value) (h:zGT x v w) (hx:I64 x) :
  Calls prog 143 #[.int .i64 lo,.int .i64 hi,v] w fun e w'=>e = .returned (.bool (inB x lo hi))∧Below w.heap.size w w':=by
 obtain ⟨b,rfl,hc⟩:=h
 refine (in_note w lo hi _ [x] (sl_row1 hc hx)).mono ?_
 intro e w' h
 rcases h.both with ⟨g1,rfl,hb⟩ | ⟨g1,rfl,hb⟩
 ·exact ⟨zCQ (zHP (g1 x (by simp))).symm,hb⟩
 ·exact ⟨zCQ (zIH (fun h=>g1 (fun y hy=>by simp at hy;rw [hy];exact h))).symm,hb⟩
theorem in_note2 (w:World) (lo hi x y:Int) (b:Nat) (h:zJ w b 0 (.int .i64 x)∧zJ w b 1 (.int .i64 y)) (hx:I64 x) (hy:I64 y) :
  Calls prog 143 #[.int .i64 lo,.int .i64 hi,.slice (some ⟨b,0,none⟩) 2 2] w fun e w'=>e = .returned (.bool (inB x lo hi && inB y lo hi))∧Below w.heap.size w w':=by
 refine (in_note w lo hi _ [x,y] (sl_row2 h hx hy)).mono ?_
 intro e w' h
 rcases h.both with ⟨g1,rfl,hb⟩ | ⟨g1,rfl,hb⟩
 ·exact ⟨zCQ (by rw [zHP (g1 x (by simp)),zHP (g1 y (by simp))];rfl),hb⟩
 ·refine ⟨zCQ ?_,hb⟩
  by_cases h1:In x lo hi
  ·by_cases h2:In y lo hi
   ·exact absurd (fun z hz=>by
     simp at hz
     rcases hz with rfl | rfl
     ·exact h1
     ·exact h2) g1
   ·rw [zIH h2];simp
  ·rw [zIH h1];rfl
structure NoteArg (w:World) (vr vn:Value) (R:List Issue) (N:List Note) : Prop where
 reg:RegArg w vr R
 sl:Sl zBM 10 w vn N
 cap:∃ a c,vn = .slice a N.length c∧N.length≤c
theorem NoteArg.ext {w w':World} {vr vn:Value} {R:List Issue} {N:List Note} (hb:Below w.heap.size w w') (h:NoteArg w vr vn R N) : NoteArg w' vr vn R N:=⟨h.reg.ext hb,zI zS hb h.sl,h.cap⟩
def zNU (x:Note) : Prop:=In x.num 1 9999∧In x.day 0 14610
def zNX (x:Note) : Prop:=x.sg≤2∧x.ways≤3
def zKO (x:Note) : Prop:=(In x.fr 1 999∧In x.to 1 999)∧x.fr≤x.to
def zLI (R:List Issue) (x:Note) : Prop:=if x.d=0∧x.l=0 then x.ca≠0 else zFQ R x.d x.l=0
def zLD (x:Note) : Prop:=2≤x.l∨(x.use=false∧x.ways=0)
def zJT (N:List Note) (i:Nat) (x:Note) : Prop:=x.ca=0∨∃ y∈N.take i,y.num=x.ca
def zKK (N:List Note) (i:Nat) (x:Note) : Prop:=¬ ∃ y∈N.take i,y.num=x.num
theorem ncheck1 (w:World) (vr vn:Value) (R:List Issue) (N:List Note) (i:Nat) (h:NoteArg w vr vn R N) (hi:i < N.length) :
  Calls prog 245 #[.agg #[vr,vn],.int .i64 i] w (zAK (zNU N[i]) w):=by
 obtain ⟨ar,cr,rfl,_⟩:=zD h.reg.sl
 obtain ⟨an,cn,rfl,hcn⟩:=h.cap
 obtain ⟨b,off,rfl,hx⟩:=(zZ h.sl).2 i hi
 have QX:=zF hx
 obtain ⟨⟨q0,q1,q2,q3,q4,q5,q6,q7,q8,q9⟩,hnum⟩:=hx
 have hlb:=zAF q0
 generalize N[i]=x at *
 have hb1:=zB w (.cells #[.slice ar R.length cr,.slice (some ⟨b,off,none⟩) N.length cn] 27)
 have LB:=Lay.new w 27 #[.slice ar R.length cr,.slice (some ⟨b,off,none⟩) N.length cn]
 have HA:=zF (h.ext hb1)
 have HI:Hid (i < N.length):=hi
 have hil:(i:Int) < N.length:=by omega
 clear h
 unfold zJ at q0 q1 q2 q3 q4 q5 q6 q7 q8 q9
 go_enter func245,ntmps245
 go_wp2_with fail
 have row:=zU (w.alloc (.cells #[.slice ar R.length cr,.slice (some ⟨b,off,none⟩) N.length cn] 27)) #[.int .i64 x.num] 3 0 (.int .i64 x.num) rfl
 rw [World.size_alloc] at row
 have hb2:=zA hb1 (zB (w.alloc (.cells #[.slice ar R.length cr,.slice (some ⟨b,off,none⟩) N.length cn] 27)) (.cells #[.int .i64 x.num] 3))
 have L2:=LB.alloc (.cells #[.int .i64 x.num] 3)
 clear hb1 LB
 generalize (w.alloc _).alloc _=w1 at *
 refine (zMZ _ _ _ x.num _ ⟨_,rfl,row⟩ hnum.1).mono ?_
 rintro e w2 ⟨rfl,hb3⟩
 have hbb:=zA hb2 hb3
 have c1:=(L2.ext hb3).cell 1 _ rfl
 obtain ⟨⟨p0,p1,_⟩,_⟩:=zS _ _ _ _ _ hbb QX.out
 have hl:=zAF p0
 have hl2:=(L2.ext hb3).lt
 unfold zJ at p0 p1
 clear row hb2 hb3 L2 q0 q1 q2 q3 q4 q5 q6 q7 q8 q9
 by_cases g1:inB x.num 1 9999=true
 ·go_wp2_with fail
  have row:=zU w2 #[.int .i64 x.day] 3 0 (.int .i64 x.day) rfl
  have hb4:=zA hbb (zB w2 (.cells #[.int .i64 x.day] 3))
  generalize w2.alloc _=w3 at *
  refine (zMZ _ _ _ x.day _ ⟨_,rfl,row⟩ hnum.2.1).mono ?_
  rintro e w4 ⟨rfl,hb5⟩
  clear c1 row p0 p1
  by_cases g2:inB x.day 0 14610=true
  ·go_wp2
   go_ret
   exact zAK.t ⟨zFM g1,zFM g2⟩ (zA hb4 hb5)
  ·have g2':=zFS g2
   go_wp2
   go_ret
   exact zAK.f (fun h=>zLJ g2 h.2) (zA hb4 hb5)
 ·have g1':=zFS g1
  clear c1 p0 p1
  go_wp2
  go_ret
  exact zAK.f (fun h=>zLJ g1 h.1) hbb
theorem ncheck2 (w:World) (vr vn:Value) (R:List Issue) (N:List Note) (i:Nat) (h:NoteArg w vr vn R N) (hi:i < N.length) :
  Calls prog 246 #[.agg #[vr,vn],.int .i64 i] w (zAK (zNX N[i]) w):=by
 obtain ⟨ar,cr,rfl,_⟩:=zD h.reg.sl
 obtain ⟨an,cn,rfl,hcn⟩:=h.cap
 obtain ⟨b,off,rfl,hx⟩:=(zZ h.sl).2 i hi
 have QX:=zF hx
 obtain ⟨⟨q0,q1,q2,q3,q4,q5,q6,q7,q8,q9⟩,hnum⟩:=hx
 have hlb:=zAF q0
 generalize N[i]=x at *
 have hb1:=zB w (.cells #[.slice ar R.length cr,.slice (some ⟨b,off,none⟩) N.length cn] 27)
 have LB:=Lay.new w 27 #[.slice ar R.length cr,.slice (some ⟨b,off,none⟩) N.length cn]
 have HA:=zF (h.ext hb1)
 have HI:Hid (i < N.length):=hi
 have hil:(i:Int) < N.length:=by omega
 clear h
 unfold zJ at q0 q1 q2 q3 q4 q5 q6 q7 q8 q9
 go_enter func246,ntmps246
 by_cases g1:x.sg≤2
 ·by_cases g2:x.ways≤3
  ·go_wp2
   go_ret
   exact zAK.t ⟨g1,g2⟩ hb1
  ·go_wp2
   go_ret
   exact zAK.f (fun h=>by have:=h.2;omega) hb1
 ·go_wp2
  go_ret
  exact zAK.f (fun h=>by have:=h.1;omega) hb1
theorem ncheck5 (w:World) (vr vn:Value) (R:List Issue) (N:List Note) (i:Nat) (h:NoteArg w vr vn R N) (hi:i < N.length) :
  Calls prog 249 #[.agg #[vr,vn],.int .i64 i] w (zAK (zLD N[i]) w):=by
 obtain ⟨ar,cr,rfl,_⟩:=zD h.reg.sl
 obtain ⟨an,cn,rfl,hcn⟩:=h.cap
 obtain ⟨b,off,rfl,hx⟩:=(zZ h.sl).2 i hi
 have QX:=zF hx
 obtain ⟨⟨q0,q1,q2,q3,q4,q5,q6,q7,q8,q9⟩,hnum⟩:=hx
 have hlb:=zAF q0
 generalize N[i]=x at *
 have hb1:=zB w (.cells #[.slice ar R.length cr,.slice (some ⟨b,off,none⟩) N.length cn] 27)
 have LB:=Lay.new w 27 #[.slice ar R.length cr,.slice (some ⟨b,off,none⟩) N.length cn]
 have HA:=zF (h.ext hb1)
 have HI:Hid (i < N.length):=hi
 have hil:(i:Int) < N.length:=by omega
 clear h
 unfold zJ at q0 q1 q2 q3 q4 q5 q6 q7 q8 q9
 have hb2:=zA hb1 (zB _ (.cells #[.int .i64 x.num,.int .i64 x.day,.int .u8 x.sg,.int .i64 x.d,.int .i64 x.l,.int .i64 x.fr,.int .i64 x.to,.int .i64 x.ca,.bool x.use,.int .u8 x.ways] 147))
 go_enter func249,ntmps249
 by_cases g1:2≤x.l
 ·go_wp2
  go_ret
  exact zAK.t (show zLD x from .inl g1) hb2
 ·cases hu:x.use with
  | true =>
    have HU:=zF hu
    rw [hu] at q8 hb2
    clear hu
    go_wp2
    go_ret
    exact zAK.f (fun h=>by
     rcases (show _∨_ from h) with h | h
     ·omega
     ·rw [HU.out] at h;cases h.1) hb2
  | false =>
    have HU:=zF hu
    rw [hu] at q8 hb2
    clear hu
    by_cases g2:x.ways=0
    ·have g2':(x.ways == 0)=true:=by simp [g2]
     have G2:=zF g2
     clear g2
     go_wp2
     go_ret
     exact zAK.t (show zLD x from .inr ⟨HU.out,G2.out⟩) hb2
    ·have g2':(x.ways == 0)=false:=by simp [g2]
     have G2:=zF g2
     clear g2
     go_wp2
     go_ret
     exact zAK.f (fun h=>by
      rcases (show _∨_ from h) with h | h
      ·omega
      ·exact G2.out h.2) hb2
theorem ncheck3 (w:World) (vr vn:Value) (R:List Issue) (N:List Note) (i:Nat) (h:NoteArg w vr vn R N) (hi:i < N.length) :
  Calls prog 247 #[.agg #[vr,vn],.int .i64 i] w (zAK (zKO N[i]) w):=by
 obtain ⟨ar,cr,rfl,_⟩:=zD h.reg.sl
 obtain ⟨an,cn,rfl,hcn⟩:=h.cap
 obtain ⟨b,off,rfl,hx⟩:=(zZ h.sl).2 i hi
 have QX:=zF hx
 obtain ⟨⟨q0,q1,q2,q3,q4,q5,q6,q7,q8,q9⟩,hnum⟩:=hx
 have hlb:=zAF q0
 generalize N[i]=x at *
 have hb1:=zB w (.cells #[.slice ar R.length cr,.slice (some ⟨b,off,none⟩) N.length cn] 27)
 have LB:=Lay.new w 27 #[.slice ar R.length cr,.slice (some ⟨b,off,none⟩) N.length cn]
 have HA:=zF (h.ext hb1)
 have HI:Hid (i < N.length):=hi
 have hil:(i:Int) < N.length:=by omega
 clear h
 unfold zJ at q0 q1 q2 q3 q4 q5 q6 q7 q8 q9
 have hb2:=zA hb1 (zB _ (.cells #[.int .i64 x.num,.int .i64 x.day,.int .u8 x.sg,.int .i64 x.d,.int .i64 x.l,.int .i64 x.fr,.int .i64 x.to,.int .i64 x.ca,.bool x.use,.int .u8 x.ways] 147))
 have LX:=Lay.new (w.alloc (.cells #[.slice ar R.length cr,.slice (some ⟨b,off,none⟩) N.length cn] 27)) 147 #[.int .i64 x.num,.int .i64 x.day,.int .u8 x.sg,.int .i64 x.d,.int .i64 x.l,.int .i64 x.fr,.int .i64 x.to,.int .i64 x.ca,.bool x.use,.int .u8 x.ways]
 rw [World.size_alloc] at LX
 go_enter func247,ntmps247
 go_wp2_with fail
 have row:=zU ((w.alloc (.cells #[.slice ar R.length cr,.slice (some ⟨b,off,none⟩) N.length cn] 27)).alloc (.cells #[.int .i64 x.num,.int .i64 x.day,.int .u8 x.sg,.int .i64 x.d,.int .i64 x.l,.int .i64 x.fr,.int .i64 x.to,.int .i64 x.ca,.bool x.use,.int .u8 x.ways] 147)) #[.int .i64 x.fr,.int .i64 x.to] 3
 have r0:=row 0 (.int .i64 x.fr) rfl
 have r1:=row 1 (.int .i64 x.to) rfl
 simp only [World.size_alloc] at r0 r1
 have LX:=LX.alloc (.cells #[.int .i64 x.fr,.int .i64 x.to] 3)
 have hb2:=zA hb2 (zB _ (.cells #[.int .i64 x.fr,.int .i64 x.to] 3))
 clear row hb1 LB q0 q1 q2 q3 q4 q5 q6 q7 q8 q9
 generalize ((w.alloc _).alloc _).alloc _=w1 at *
 refine (in_note2 _ _ _ x.fr x.to _ ⟨r0,r1⟩ hnum.2.2.2.2.2.1 hnum.2.2.2.2.2.2.1).mono ?_
 rintro e w2 ⟨rfl,hb3⟩
 have L2:=LX.ext hb3
 have c5:=L2.cell 5 _ rfl
 have c6:=L2.cell 6 _ rfl
 have hbb:=zA hb2 hb3
 clear r0 r1 LX L2 hb2 hb3
 have hiff:(inB x.fr 1 999 && inB x.to 1 999)=true↔In x.fr 1 999∧In x.to 1 999:=by
  rw [Bool.and_eq_true]
  exact ⟨fun h=>⟨zFM h.1,zFM h.2⟩,fun h=>⟨zHP h.1,zHP h.2⟩⟩
 generalize (inB x.fr 1 999 && inB x.to 1 999)=bb at *
 have HIFF:=zF hiff
 clear hiff
 cases bb with
 | true =>
   by_cases g1:x.fr≤x.to
   ·go_wp2
    go_ret
    exact zAK.t (show zKO x from ⟨HIFF.out.1 (by simp),g1⟩) hbb
   ·have g1':decide (x.fr≤x.to)=false:=by simp;omega
    go_wp2
    go_ret
    exact zAK.f (fun (h:zKO x)=>by have:=h.2;omega) hbb
 | false =>
   go_wp2
   go_ret
   exact zAK.f (fun (h:zKO x)=>by have:=HIFF.out.2 h.1;simp at this) hbb
theorem ncheck4 (w:World) (vr vn:Value) (R:List Issue) (N:List Note) (i:Nat) (h:NoteArg w vr vn R N) (hi:i < N.length) :
  Calls prog 248 #[.agg #[vr,vn],.int .i64 i] w (zAK (zLI R N[i]) w):=by
 obtain ⟨ar,cr,rfl,_⟩:=zD h.reg.sl
 obtain ⟨an,cn,rfl,hcn⟩:=h.cap
 obtain ⟨b,off,rfl,hx⟩:=(zZ h.sl).2 i hi
 have QX:=zF hx
 obtain ⟨⟨q0,q1,q2,q3,q4,q5,q6,q7,q8,q9⟩,hnum⟩:=hx
 have hlb:=zAF q0
 generalize N[i]=x at *
 have hb1:=zB w (.cells #[.slice ar R.length cr,.slice (some ⟨b,off,none⟩) N.length cn] 27)
 have LB:=Lay.new w 27 #[.slice ar R.length cr,.slice (some ⟨b,off,none⟩) N.length cn]
 have HA:=zF (h.ext hb1)
 have HI:Hid (i < N.length):=hi
 have hil:(i:Int) < N.length:=by omega
 clear h
 unfold zJ at q0 q1 q2 q3 q4 q5 q6 q7 q8 q9
 have hb2:=zA hb1 (zB _ (.cells #[.int .i64 x.num,.int .i64 x.day,.int .u8 x.sg,.int .i64 x.d,.int .i64 x.l,.int .i64 x.fr,.int .i64 x.to,.int .i64 x.ca,.bool x.use,.int .u8 x.ways] 147))
 have h4:zLI R x↔if x.d=0∧x.l=0 then x.ca≠0 else zFQ R x.d x.l=0:=Iff.rfl
 have H4:=zF h4
 have HA2:=zF (HA.out.ext (zB _ (.cells #[.int .i64 x.num,.int .i64 x.day,.int .u8 x.sg,.int .i64 x.d,.int .i64 x.l,.int .i64 x.fr,.int .i64 x.to,.int .i64 x.ca,.bool x.use,.int .u8 x.ways] 147)))
 clear h4
 go_enter func248,ntmps248
 by_cases g1:((0:Int) == x.d)=true
 ·by_cases g2:((0:Int) == x.l)=true
  ·have e1:x.d=0∧x.l=0:=by
    have h1:=beq_iff_eq.1 g1
    have h2:=beq_iff_eq.1 g2
    exact ⟨h1.symm,h2.symm⟩
   rw [if_pos e1] at H4
   have HH4:=zF H4.out
   clear H4 e1
   by_cases g3:x.ca=0
   ·have g3':(x.ca != 0)=false:=by simp [g3]
    have G3:=zF g3
    clear g3
    go_wp2
    go_ret
    exact zAK.f (fun h=>(HH4.out.1 h) G3.out) hb2
   ·have g3':(x.ca != 0)=true:=by simp [g3]
    have G3:=zF g3
    clear g3
    go_wp2
    go_ret
    exact zAK.t (HH4.out.2 G3.out) hb2
  ·have g2':((0:Int) == x.l)=false:=by simpa using g2
   have G1:=zF (show ¬ (x.d=0∧x.l=0) from fun h=>g2 (by rw [h.2];rfl))
   clear g2
   go_wp2_with fail
   refine (at_sheet _ _ R x.d x.l HA2.out.reg).mono ?_
   rintro e w2 ⟨⟨x1,x2,x3,vi,vs,rfl,⟨a1,n1,c1,rfl⟩,⟨a2,n2,c2,rfl⟩,-⟩,hb3⟩
   have hbb:=zA hb2 (zA hb3 (zB w2 (.cells #[.int .i64 x1,.int .i64 x2,.int .u8 x3,.slice a1 n1 c1,.slice a2 n2 c2] 107)))
   rw [if_neg G1.out] at H4
   have H4b:=zF H4.out
   clear H4
   generalize zFQ R x.d x.l=c at *
   by_cases gc:c=0
   ·subst gc
    go_wp2
    go_ret
    exact zAK.t (H4b.out.2 (by simp)) hbb
   ·have gc':(c == 0)=false:=by simp [gc]
    have GC:=zF gc
    clear gc
    go_wp2
    go_ret
    exact zAK.f (fun h=>GC.out (H4b.out.1 h)) hbb
 ·have g1':((0:Int) == x.d)=false:=by simpa using g1
  have G1:=zF (show ¬ (x.d=0∧x.l=0) from fun h=>g1 (by rw [h.1];rfl))
  clear g1
  go_wp2_with fail
  refine (at_sheet _ _ R x.d x.l HA2.out.reg).mono ?_
  rintro e w2 ⟨⟨x1,x2,x3,vi,vs,rfl,⟨a1,n1,c1,rfl⟩,⟨a2,n2,c2,rfl⟩,-⟩,hb3⟩
  have hbb:=zA hb2 (zA hb3 (zB w2 (.cells #[.int .i64 x1,.int .i64 x2,.int .u8 x3,.slice a1 n1 c1,.slice a2 n2 c2] 107)))
  rw [if_neg G1.out] at H4
  have H4b:=zF H4.out
  clear H4
  generalize zFQ R x.d x.l=c at *
  by_cases gc:c=0
  ·subst gc
   go_wp2
   go_ret
   exact zAK.t (H4b.out.2 (by simp)) hbb
  ·have gc':(c == 0)=false:=by simp [gc]
   have GC:=zF gc
   clear gc
   go_wp2
   go_ret
   exact zAK.f (fun h=>GC.out (H4b.out.1 h)) hbb
end
end Go.Proofs.YtpolpdegpbahiaaGreatDoor
