/- The truths that are left, in order: plain. -/
import Derived.Test.YtjleiiinibdepaaGreatDoorK16
import Derived.Test.YtjleiiinibdepaaGreatDoorK28
set_option linter.all false
set_option maxRecDepth 100000
set_option maxHeartbeats 12800000

namespace Go.Proofs.YtjleiiinibdepaaGreatDoor
open Tryz
section
open Go.RowKit Go.Shelf
attribute [local go_sem] zAE Oper.grows Oper.growUpon Oper.wild Oper.wildUpon
theorem selTo_le (O:List Int) (s:Nat) : ∀ i,(zPH O s i).length≤i
 | 0=>by simp [zPH]
 | i+1=>by
   have:=selTo_le O s i
   simp only [zPH,List.length_append]
   split <;> simp <;> omega
end
section
open Go.RowKit
def zND (b:Built) (A:List (List Int)) : Prop:=Ord A∧∀ l,l∈A↔IsT (zBO b.ns.notes) l∧zCV b l
theorem zND.eq {b:Built} {A B:List (List Int)} (hA:zND b A) (hB:zND b B) : A=B:=ord_eq hA.1 hB.1 (fun l=>(hA.2 l).trans (hB.2 l).symm)
theorem isT_congr {O P:List Int} (h:∀ y,y∈O↔y∈P) (l:List Int) : IsT O l↔IsT P l:=by
 unfold IsT
 exact and_congr Iff.rfl (forall_congr' fun x=>imp_congr_right fun _=>h x)
theorem opens_len5 {R:List Issue} {N:List Note} (h:zDL R N) : (zBO N).length≤5:=by
 have key:∀ k,k≤N.length→((N.take k).filter (fun x=>x.sg == 1)).length=zFN N k:=by
  intro k
  induction k with
  | zero=>intro _;simp [zFN]
  | succ k ih =>
    intro hk
    have hlt:k < N.length:=by omega
    rw [List.take_succ_eq_append_getElem hlt,List.filter_append,List.length_append,ih (by omega),zMA N k hlt]
    by_cases e:N[k].sg=1 <;> simp [e]
 have:=key N.length (Nat.le_refl _)
 rw [List.take_length] at this
 unfold zBO
 rw [List.length_map,this]
 exact h.2.2
structure LeftTo (b:Built) (T:List (List Int)) (k:Nat) (A:List (List Int)) : Prop where
 ord:Ord A
 mem:∀ l,l∈A↔l∈T.take k∧zCV b l
 len:A.length≤k
theorem LeftTo.skip {b:Built} {T A:List (List Int)} {k:Nat} (h:LeftTo b T k A) (hk:k < T.length) (hn:¬ zCV b T[k]) : LeftTo b T (k+1) A :=
 ⟨h.ord,fun l=>by
  rw [h.mem,List.take_succ_eq_append_getElem hk,List.mem_append,List.mem_singleton]
  constructor
  ·rintro ⟨a,c⟩
   exact ⟨.inl a,c⟩
  ·rintro ⟨a | rfl,c⟩
   ·exact ⟨a,c⟩
   ·exact absurd c hn,by have:=h.len;omega⟩
theorem ord_put {A:List (List Int)} {x:List Int} {k:Nat} (hA:Ord A) (h1:∀ y∈A.drop k,zFV x y=true) (h2:∀ y∈A.take k,zFV y x=true) : Ord (A.take k++x :: A.drop k):=by
 unfold Ord at *
 rw [← List.take_append_drop k A,List.pairwise_append] at hA
 rw [List.pairwise_append,List.pairwise_cons]
 refine ⟨hA.1,⟨h1,hA.2.1⟩,fun a ha c hc=>?_⟩
 rcases List.mem_cons.1 hc with rfl | hc
 ·exact h2 a ha
 ·exact hA.2.2 a ha c hc
theorem LeftTo.put {b:Built} {T A:List (List Int)} {k j:Nat} (h:LeftTo b T k A) (hk:k < T.length) (hy:zCV b T[k]) (hj:j≤A.length) (h1:∀ y∈A.drop j,zFV T[k] y=true) (h2:∀ y∈A.take j,zFV y T[k]=true) : LeftTo b T (k+1) (A.take j++T[k] :: A.drop j) :=
 ⟨ord_put h.ord h1 h2,fun l=>by
  have e:l∈A↔l∈A.take j∨l∈A.drop j:=by rw [← List.mem_append,List.take_append_drop]
  rw [List.mem_append,List.mem_cons,List.take_succ_eq_append_getElem hk,List.mem_append,List.mem_singleton]
  have hm:=h.mem l
  constructor
  ·rintro (a | rfl | a)
   ·have:=hm.1 (e.2 (.inl a));exact ⟨.inl this.1,this.2⟩
   ·exact ⟨.inr rfl,hy⟩
   ·have:=hm.1 (e.2 (.inr a));exact ⟨.inl this.1,this.2⟩
  ·rintro ⟨a | rfl,c⟩
   ·rcases e.1 (hm.2 ⟨a,c⟩) with d | d
    ·exact .inl d
    ·exact .inr (.inr d)
   ·exact .inr (.inl rfl),by
  have:=h.len
  have e:=congrArg List.length (List.take_append_drop j A)
  rw [List.length_append] at e
  rw [List.length_append,List.length_cons]
  omega⟩
theorem LeftTo.ahead {b:Built} {T A:List (List Int)} {k j:Nat} (h:LeftTo b T k A) (hT:T.Nodup) (hk:k < T.length) (hj:j < A.length) (hn:zFV T[k] A[j]=false) : ∀ y∈A.take (j+1),zFV y T[k]=true:=by
 have hne:A[j]≠T[k]:=fun e=>by
  have h1:=((h.mem A[j]).1 (List.getElem_mem hj)).1
  rw [e] at h1
  obtain ⟨i,hi,he⟩:=List.mem_take_iff_getElem.1 h1
  have:=(List.nodup_iff_pairwise_ne.1 hT)
  exact List.pairwise_iff_getElem.1 this i k (by omega) hk (by omega) he
 have h0:zFV A[j] T[k]=true:=by
  by_cases e:zFV A[j] T[k]=true
  ·exact e
  ·exact absurd (zMM _ _ (by simpa using e) hn) hne
 intro y hy
 rw [List.take_succ_eq_append_getElem hj,List.mem_append,List.mem_singleton] at hy
 rcases hy with hy | rfl
 ·obtain ⟨i,hi,rfl⟩:=List.mem_take_iff_getElem.1 hy
  exact befL_tr _ _ _ (List.pairwise_iff_getElem.1 h.ord i j (by omega) hj (by omega)) h0
 ·exact h0
theorem LeftTo.all {b:Built} {O:List Int} {A:List (List Int)} (hO:O.Pairwise (· < ·)) (hm:∀ y,y∈O↔y∈zBO b.ns.notes) (h:LeftTo b (refT O) (refT O).length A) : zND b A :=
 ⟨h.ord,fun l=>by rw [h.mem,List.take_length,refT_mem hO,isT_congr hm]⟩
theorem zEO.put {α:Type} {es:List TypeId} {F:World→List Value→α→Prop} {w:World} {cs:List Value} {xs:List α} (h:zEO es F 1 w cs xs) (k:Nat) (hk:k≤xs.length) {u:Value} {y:α} (hu:OnT es (fun w=>F w [u] y) w) : zEO es F 1 w (cs.take k++u :: cs.drop k) (xs.take k++y :: xs.drop k):=by
 obtain ⟨hl,hx⟩:=h.at1
 refine rowIs_of1 (by simp [hl]) (fun i hi=>?_)
 simp only [List.length_append,List.length_cons,List.length_take,List.length_drop] at hi
 have l1:(cs.take k).length=k:=by rw [List.length_take];omega
 have l2:(xs.take k).length=k:=by rw [List.length_take];omega
 by_cases e:i < k
 ·obtain ⟨v,h1,h2⟩:=hx i (by omega)
  refine ⟨v,by rw [List.getElem?_append_left (by omega),List.getElem?_take_of_lt e];exact h1,?_⟩
  rw [List.getElem_append_left (by omega),List.getElem_take]
  exact h2
 ·by_cases e2:i=k
  ·subst e2
   refine ⟨u,by rw [List.getElem?_append_right (by omega),l1];simp,?_⟩
   rw [List.getElem_append_right (by omega)]
   simp only [l2,Nat.sub_self,List.getElem_cons_zero]
   exact hu
  ·obtain ⟨m,rfl⟩ : ∃ m,i=k+1+m:=⟨i - k - 1,by omega⟩
   obtain ⟨v,h1,h2⟩:=hx (k+m) (by omega)
   have e3:k+1+m - k=m+1:=by omega
   refine ⟨v,by rw [List.getElem?_append_right (by omega),l1,e3,List.getElem?_cons_succ,List.getElem?_drop];exact h1,?_⟩
   rw [List.getElem_append_right (by omega)]
   simp only [l2,e3,List.getElem_cons_succ,List.getElem_drop]
   exact h2
end
end Go.Proofs.YtjleiiinibdepaaGreatDoor
