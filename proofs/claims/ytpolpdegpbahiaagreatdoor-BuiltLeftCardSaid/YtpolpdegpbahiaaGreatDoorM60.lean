/- A view of machines in a truth, in plain Lean: what it tells of heaps and reports is what the truth leaves. -/
import Derived.Test.YtpolpdegpbahiaaGreatDoorM55
import Derived.Test.YtpolpdegpbahiaaGreatDoorM59
set_option linter.all false
set_option maxRecDepth 100000
set_option maxHeartbeats 12800000

namespace Go.Proofs.YtpolpdegpbahiaaGreatDoor
open Tryz
open Go.RowKit
def zBS (b:Built) (S:List Int) : List Has:=b.rs.map (fun r=>zAB b S r.m r.d)
def zSD (b:Built) (S:List Int) (k:Nat) : List Int:=b.ms.map (zKM b S k)
def zBO (b:Built) (S:List Int) : List (List Int):=(List.range b.hs.length).map (zSD b S)
theorem sumTo_rowT (b:Built) (S:List Int) (k i:Nat) : zHH (zSD b S k) i=zES b S k i:=by
 induction i with
 | zero=>rfl
 | succ i ih =>
   simp only [zHH,zES]
   rw [ih]
   congr 1
   unfold zSD
   rw [List.getD_eq_getElem?_getD,List.getElem?_map]
   cases b.ms[i]? <;> rfl
theorem zEP {R:List Issue} (hL:zEM R) {d l:Int} (h:zHO R d l) : d∈nums R:=by
 obtain ⟨x,hx,_⟩:=h
 obtain ⟨h1,rfl,_⟩:=zGN hx
 obtain ⟨k,hk,rfl⟩:=List.getElem_of_mem h1
 exact zMM R (fun j hj=>(hL.2.1 j hj).2) k hk
theorem viewT_at (b:Built) (S:List Int) {k:Nat} (hk:k < b.hs.length) : (zBO b S).getD k []=zSD b S k:=by
 unfold zBO
 rw [List.getD_eq_getElem?_getD,List.getElem?_map,List.getElem?_range hk]
 rfl
theorem takeB_is {b:Built} {S:List Int} {m n:Int} {k:Nat} (h:(zAB b S m n).h=k) : zKM b S k m=(zAB b S m n).c:=by
 obtain ⟨_,hk,hd,_⟩:=heapTo_at h
 have e:(b.hs[k]?).elim 0 (·.d)=n:=by rw [List.getElem?_eq_getElem hk];exact hd
 unfold zKM
 rw [e,if_pos h]
theorem zMK {b:Built} {S:List Int} {m:Int} (hm:m∈b.ms) (d n:Int) :
  oldV (zBO b S) (zAB b S m d).h (b.ms.idxOf m) n=if (zAB b S m d).h < 0 then 0 else zPD (zES b S (zAB b S m d).h.toNat (b.ms.idxOf m)) (zAB b S m d).c n:=by
 unfold oldV
 have hb:=zFP b S m d
 by_cases h0:(zAB b S m d).h < 0
 ·rw [if_pos h0,if_pos h0]
 ·rw [if_neg h0,if_neg h0]
  obtain ⟨k,hk⟩ : ∃ k:Nat,(zAB b S m d).h=k:=⟨(zAB b S m d).h.toNat,by omega⟩
  have hk2:(zAB b S m d).h.toNat=k:=by omega
  rw [hk2,viewT_at b S (by omega),sumTo_rowT]
  congr 1
  have hi:=List.idxOf_lt_length_of_mem hm
  unfold atD zSD
  rw [List.getD_eq_getElem?_getD,List.getElem?_map,List.getElem?_eq_getElem hi,List.getElem_idxOf hi]
  exact takeB_is hk
theorem zRU {b:Built} (h:zM b=0) (S:List Int) : ViewOk b.ms b.rs (zBS b S) (zBO b S):=by
 refine ⟨by unfold zBS;rw [List.length_map],fun t ht=>?_,fun x hx=>?_,fun r hr=>?_⟩
 ·unfold zBO at ht
  obtain ⟨k,_,rfl⟩:=List.mem_map.1 ht
  refine ⟨by unfold zSD;rw [List.length_map],fun x hx=>?_⟩
  unfold zSD at hx
  obtain ⟨m,_,rfl⟩:=List.mem_map.1 hx
  exact take_bd h S k m
 ·unfold zBS at hx
  obtain ⟨r,hr,rfl⟩:=List.mem_map.1 hx
  have h1:=zFP b S r.m r.d
  have h2:=zGZ h S r.m r.d
  have hv:=zEN h hr
  have h3:=zFG (zW h).1 S r.m (zEP (zAR (zAS (zW h).1).1) hv.2.2.2)
  refine ⟨h1.1,?_,h2.1,h2.2,?_⟩
  ·unfold zBO;rw [List.length_map,List.length_range];exact h1.2
  ·show I64 (zQ S r.m b.ns.notes r.d - 1)
   unfold I64
   omega
 ·have hv:=zEN h hr
  exact ⟨hv.2.2.1,hv.2.1.1,hv.2.1.2⟩
theorem viewX_at {b:Built} {S:List Int} {i:Nat} (h1:i < (zBS b S).length) (h2:i < b.rs.length) : (zBS b S)[i]=zAB b S b.rs[i].m b.rs[i].d:=by simp only [zBS,List.getElem_map]
theorem zQK {b:Built} (h:zM b=0) (S:List Int) (k n:Int) {i:Nat} (hi:i < b.rs.length) : zET b.ms b.rs (zBS b S) (zBO b S) k n i↔zNY b S k n b.rs[i]:=by
 have hl:i < (zBS b S).length:=by unfold zBS;rw [List.length_map];exact hi
 have hm:=(zEN h (List.getElem_mem hi)).2.2.1
 have hx:=viewX_at hl hi
 have hold:=fun n=>zMK (S:=S) hm b.rs[i].d n
 have hbf:¬ (zAB b S b.rs[i].m b.rs[i].d).h < 0→zES b S (zAB b S b.rs[i].m b.rs[i].d).h.toNat (b.ms.idxOf b.rs[i].m)=zLZ b S b.rs[i]:=fun h0=>by unfold zLZ;rw [if_pos (by omega)]
 constructor
 ·rintro ⟨_,_,h1,h2⟩
  rw [hx] at h1 h2
  refine ⟨h1,?_⟩
  unfold zML at h2
  rw [hold] at h2
  rw [← h1]
  by_cases h0:(zAB b S b.rs[i].m b.rs[i].d).h < 0
  ·rw [if_pos h0] at h2 ⊢;exact h2
  ·rw [if_neg h0] at h2 ⊢
   rw [hbf h0] at h2
   exact h2
 ·rintro ⟨h1,h2⟩
  refine ⟨hl,hi,by rw [hx];exact h1,?_⟩
  unfold zML
  rw [hx,hold]
  rw [← h1] at h2
  by_cases h0:(zAB b S b.rs[i].m b.rs[i].d).h < 0
  ·rw [if_pos h0] at h2 ⊢;exact h2
  ·rw [if_neg h0] at h2 ⊢
   rw [hbf h0]
   exact h2
theorem noFail_view {b:Built} (h:zM b=0) (S:List Int) (k n:Int) : zKP b.ms b.rs (zBS b S) (zBO b S) k n↔∀ r∈b.rs,¬ zNY b S k n r:=by
 unfold zKP
 constructor
 ·intro hf r hr
  obtain ⟨i,hi,rfl⟩:=List.getElem_of_mem hr
  exact fun hc=>hf i hi ((zQK h S k n hi).2 hc)
 ·intro hf i hi hc
  exact hf _ (List.getElem_mem hi) ((zQK h S k n hi).1 hc)
theorem zOO {b:Built} (h:zM b=0) (S:List Int) (k:Nat) : zHL b.ms b.hs b.rs (zBS b S) (zBO b S) k=zGB b S k:=by
 unfold zHL zGB zBL
 congr 1
 funext x
 congr 1
 funext n
 exact propext (noFail_view h S k n)
theorem leftV_view {b:Built} (h:zM b=0) (S:List Int) : leftV b.ms b.hs b.rs (zBS b S) (zBO b S)↔zII b S:=by
 unfold leftV zII
 rw [noFail_view h S]
 exact and_congr (forall_congr' fun k=>by rw [zOO h]) Iff.rfl
end Go.Proofs.YtpolpdegpbahiaaGreatDoor
