/- Lemmas. -/
import Derived.Test.YtipaopbmklbmnaaGreatDoorT17
set_option linter.all false
set_option maxRecDepth 100000
set_option maxHeartbeats 0
namespace Go.Proofs.YtipaopbmklbmnaaGreatDoor
section
open Tryz
open Go.RowKit
def zQN (L:List Item) (n:Int) : Nat->Int
 | 0=>0
 | k+1=>if (L[k]?).elim false (fun x=>x.d == n)=true then (L[k]?).elim 0 (·.c) else zQN L n k
theorem lastC_yes {L:List Item} {n:Int} {k:Nat} (hk:k < L.length) (h:L[k].d=n) : zQN L n (k+1)=L[k].c:=by
 simp [zQN,List.getElem?_eq_getElem hk,h]
theorem lastC_no {L:List Item} {n:Int} {k:Nat} (hk:k < L.length) (h:¬ L[k].d=n) : zQN L n (k+1)=zQN L n k:=by
 simp [zQN,List.getElem?_eq_getElem hk,h]
theorem lastC_is {L:List Item} {n:Int} {c:Int->Int} (hc:∀ x∈L,x.c=c x.d) : ∀ k,k<=L.length->(zQN L n k=c n/\∃ j,∃ h:j < L.length,L[j].d=n)\/(zQN L n k=0/\∀ j,j < k->(h:j < L.length)->¬ L[j].d=n):=by
 intro k;induction k with
 | zero=>intro _;exact .inr ⟨rfl,fun j hj=>absurd hj (by omega)⟩
 | succ k ih =>
   intro hk;by_cases e:L[k].d=n
   ·left;rw [lastC_yes (by omega) e,hc _ (List.getElem_mem _),e];exact ⟨rfl,k,by omega,e⟩
   ·rw [lastC_no (by omega) e]
    rcases ih (by omega) with h | ⟨h1,h2⟩
    ·exact .inl h
    ·refine .inr ⟨h1,fun j hj hl=>?_⟩
     by_cases e2:j=k
     ·subst e2;exact e
     ·exact h2 j (by omega) hl
theorem lastC_pos {D:List Int} {c:Int->Int} {n:Int} (hn:n∈D) (h0:0<=c n) : zQN (zEP D c D.length) n (zEP D c D.length).length=c n:=by
 rcases lastC_is (L:=zEP D c D.length) (n:=n) (c:=c) (fun x hx=>(posTo_mem hx).2) _ (Nat.le_refl _) with ⟨h,_⟩ | ⟨h,h2⟩
 ·exact h
 ·rw [h]
  by_cases hp:0 < c n
  ·exfalso
   have hm:(⟨n,c n⟩ : Item)∈zEP D c D.length:=by unfold zEP;rw [List.take_length];exact List.mem_filterMap.2 ⟨n,hn,by rw [if_pos hp]⟩
   obtain ⟨j,hj,hx⟩:=List.getElem_of_mem hm;exact h2 j hj hj (by rw [hx])
  ·omega
theorem zNN {R:List Issue} {N:List Note} (h:zP R N=0) (S:List Int) (m:Int) {d:Int} (hd:d∈nums R) : 1<=zAA S m N d/\zAA S m N d<=8:=by
 obtain ⟨x,hx⟩:=zNM h S m d hd;obtain ⟨h1,_,h3⟩:=zIH hx;obtain ⟨k,hk,rfl⟩:=List.getElem_of_mem h1;have:=(((zAW (zBJ h).1).2.1 k hk).1 hk).1.2.1;unfold In at this;omega
end
end Go.Proofs.YtipaopbmklbmnaaGreatDoor
