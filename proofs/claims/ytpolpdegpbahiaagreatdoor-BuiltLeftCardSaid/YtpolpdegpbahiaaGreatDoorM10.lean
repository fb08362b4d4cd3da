/- Small functions of the program and of the library. -/
import Derived.Shelf.Abstract
import Derived.Test.YtpolpdegpbahiaaGreatDoorM01
import Derived.Test.YtpolpdegpbahiaaGreatDoorM02
set_option linter.all false
set_option maxRecDepth 100000
set_option maxHeartbeats 12800000

namespace Go.Proofs.YtpolpdegpbahiaaGreatDoor
section
open Go.RowKit Go.Shelf
theorem indexFunc_int (w : World) (v : Value) (xs : List Int) (h : Sl zAJ 1 w v xs) (g : FuncId) (caps : Array Value) (eg : ∀ args w, (callFunc g args).run Tryz.prog w = .ok (.enter g args) w) (p : Int → Prop)
  (hp : ∀ x ∈ xs, ∀ w', Below w.heap.size w w' → Calls Tryz.prog g (#[.int .i64 x] ++ caps) w' (zAK (p x) w')) :
  Calls Tryz.prog 146 #[v, .func (.func g) #[] caps] w fun e w' => ∃ i : Int, e = .returned (.int .i64 i) ∧ (0 ≤ i ↔ ∃ x ∈ xs, p x) ∧ Below w.heap.size w w' := by
 obtain ⟨a, cap, rfl, hm⟩ := zD h
 go_enter Tryz.func146, Tryz.ntmps146
 go_wp2
 go_loopw [8] (fun i wr => ∃ k : Nat, i = .int .i64 k ∧ k ≤ xs.length ∧ Hid (Below w.heap.size w wr) ∧ Hid (∀ j, j < k → (hj : j < xs.length) → ¬ p xs[j])) (fun i _ => xs.length - (intOf i).toNat)
 case atStart => exact ⟨0, rfl, by omega, Below.refl _ _, fun j hj => absurd hj (by omega)⟩
 case round =>
  obtain ⟨k, rfl, hk, hb, hall⟩ := hrel
  by_cases hlt : k < xs.length
  ·have hcall := hp xs[k] (List.getElem_mem hlt) wr hb.out
   have HM := Lib.hid (List.getElem_mem hlt)
   obtain ⟨b, off, rfl, ⟨h0, _⟩⟩ := (zZ (zI zN hb.out h)).2 k hlt
   generalize hx : xs[k] = x at *
   have HX := Lib.hid hx
   clear hx hp h
   have hlt3 := zAF h0
   unfold zJ at h0
   rw [Nat.mul_one] at h0
   go_wp2_with (go_at_fn g; refine hcall.mono ?_; intro e w' hr; rcases hr.both with ⟨h1, rfl, hb'⟩ | ⟨h1, rfl, hb'⟩ <;> clear hr)
   ·have h1' := Lib.hid h1
    clear h1
    go_wp2
    go_ret
    exact ⟨k, rfl, ⟨fun _ => ⟨x, HM.out, h1'.out⟩, fun _ => by omega⟩, zA hb.out hb'⟩
   ·have h1' := Lib.hid h1
    clear h1
    go_wp2
    go_roundw
    case rel => exact ⟨k + 1, by go_num, by omega, zA hb.out hb', zAO _ k hall.out (fun _ => by rw [HX.out]; exact h1'.out)⟩
    case measure => simp [intOf]; omega
  ·clear hp h
   go_wp2
   go_ret
   refine ⟨-1, rfl, ⟨fun h => by omega, fun ⟨x, hx, hpx⟩ => ?_⟩, hb.out⟩
   obtain ⟨j, hj, rfl⟩ := List.getElem_of_mem hx
   exact (hall.out j (by omega) hj hpx).elim
theorem zEC (w : World) (v : Value) (xs : List Int) (h : Sl zAJ 1 w v xs) (g : FuncId) (caps : Array Value) (eg : ∀ args w, (callFunc g args).run Tryz.prog w = .ok (.enter g args) w) (p : Int → Prop)
  (hp : ∀ x ∈ xs, ∀ w', Below w.heap.size w w' → Calls Tryz.prog g (#[.int .i64 x] ++ caps) w' (zAK (p x) w')) :
  Calls Tryz.prog 103 #[v, .func (.func g) #[] caps] w (zAK (∃ x ∈ xs, p x) w) := by
 go_enter Tryz.func103, Tryz.ntmps103
 go_wp2_with fail
 refine (indexFunc_int _ _ xs h g caps eg p hp).mono ?_
 rintro e w' ⟨i, rfl, hi, hb⟩
 have HI := Lib.hid hi
 clear hi h hp
 go_wp2
 go_ret
 exact ⟨decide (0 ≤ i), rfl, by rw [decide_eq_true_eq]; exact HI.out, hb⟩
theorem indexFunc_heap (w : World) (v : Value) (xs : List Heap) (h : Sl zHA 4 w v xs) (g : FuncId) (caps : Array Value) (eg : ∀ args w, (callFunc g args).run Tryz.prog w = .ok (.enter g args) w) (p : Heap → Prop)
  (hp : ∀ x ∈ xs, ∀ w', Below w.heap.size w w' → Calls Tryz.prog g (#[.agg #[.int .i64 x.d, .int .i64 x.l, .int .i64 x.lo, .int .i64 x.hi]] ++ caps) w' (zAK (p x) w')) :
  Calls Tryz.prog 111 #[v, .func (.func g) #[] caps] w fun e w' => ∃ i : Int, e = .returned (.int .i64 i) ∧ (0 ≤ i ↔ ∃ x ∈ xs, p x) ∧ Below w.heap.size w w' := by
 obtain ⟨a, cap, rfl, hm⟩ := zD h
 go_enter Tryz.func111, Tryz.ntmps111
 go_wp2
 go_loopw [8] (fun i wr => ∃ k : Nat, i = .int .i64 k ∧ k ≤ xs.length ∧ Hid (Below w.heap.size w wr) ∧ Hid (∀ j, j < k → (hj : j < xs.length) → ¬ p xs[j])) (fun i _ => xs.length - (intOf i).toNat)
 case atStart => exact ⟨0, rfl, by omega, Below.refl _ _, fun j hj => absurd hj (by omega)⟩
 case round =>
  obtain ⟨k, rfl, hk, hb, hall⟩ := hrel
  by_cases hlt : k < xs.length
  ·have hcall := hp xs[k] (List.getElem_mem hlt) wr hb.out
   have HM := Lib.hid (List.getElem_mem hlt)
   obtain ⟨b, off, rfl, ⟨⟨h0, h1, h2, h3⟩, _⟩⟩ := (zZ (zI zCL hb.out h)).2 k hlt
   generalize hx : xs[k] = x at *
   have HX := Lib.hid hx
   clear hx hp h
   have hlt3 := zAF h0
   unfold zJ at h0 h1 h2 h3
   go_wp2_with (go_at_fn g; refine hcall.mono ?_; intro e w' hr; rcases hr.both with ⟨h1, rfl, hb'⟩ | ⟨h1, rfl, hb'⟩ <;> clear hr)
   ·have h1' := Lib.hid h1
    clear h1
    go_wp2
    go_ret
    exact ⟨k, rfl, ⟨fun _ => ⟨x, HM.out, h1'.out⟩, fun _ => by omega⟩, zA hb.out hb'⟩
   ·have h1' := Lib.hid h1
    clear h1
    go_wp2
    go_roundw
    case rel => exact ⟨k + 1, by go_num, by omega, zA hb.out hb', zAO _ k hall.out (fun _ => by rw [HX.out]; exact h1'.out)⟩
    case measure => simp [intOf]; omega
  ·clear hp h
   go_wp2
   go_ret
   refine ⟨-1, rfl, ⟨fun h => by omega, fun ⟨x, hx, hpx⟩ => ?_⟩, hb.out⟩
   obtain ⟨j, hj, rfl⟩ := List.getElem_of_mem hx
   exact (hall.out j (by omega) hj hpx).elim
theorem zOC (w : World) (v : Value) (xs : List Heap) (h : Sl zHA 4 w v xs) (g : FuncId) (caps : Array Value) (eg : ∀ args w, (callFunc g args).run Tryz.prog w = .ok (.enter g args) w) (p : Heap → Prop)
  (hp : ∀ x ∈ xs, ∀ w', Below w.heap.size w w' → Calls Tryz.prog g (#[.agg #[.int .i64 x.d, .int .i64 x.l, .int .i64 x.lo, .int .i64 x.hi]] ++ caps) w' (zAK (p x) w')) :
  Calls Tryz.prog 66 #[v, .func (.func g) #[] caps] w (zAK (∃ x ∈ xs, p x) w) := by
 go_enter Tryz.func66, Tryz.ntmps66
 go_wp2_with fail
 refine (indexFunc_heap _ _ xs h g caps eg p hp).mono ?_
 rintro e w' ⟨i, rfl, hi, hb⟩
 have HI := Lib.hid hi
 clear hi h hp
 go_wp2
 go_ret
 exact ⟨decide (0 ≤ i), rfl, by rw [decide_eq_true_eq]; exact HI.out, hb⟩
theorem indexFunc_item (w : World) (v : Value) (xs : List Item) (h : Sl zCP 2 w v xs) (g : FuncId) (caps : Array Value) (eg : ∀ args w, (callFunc g args).run Tryz.prog w = .ok (.enter g args) w) (p : Item → Prop)
  (hp : ∀ x ∈ xs, ∀ w', Below w.heap.size w w' → Calls Tryz.prog g (#[.agg #[.int .i64 x.d, .int .i64 x.c]] ++ caps) w' (zAK (p x) w')) :
  Calls Tryz.prog 193 #[v, .func (.func g) #[] caps] w fun e w' => ∃ i : Int, e = .returned (.int .i64 i) ∧ (0 ≤ i ↔ ∃ x ∈ xs, p x) ∧ Below w.heap.size w w' := by
 obtain ⟨a, cap, rfl, hm⟩ := zD h
 go_enter Tryz.func193, Tryz.ntmps193
 go_wp2
 go_loopw [8] (fun i wr => ∃ k : Nat, i = .int .i64 k ∧ k ≤ xs.length ∧ Hid (Below w.heap.size w wr) ∧ Hid (∀ j, j < k → (hj : j < xs.length) → ¬ p xs[j])) (fun i _ => xs.length - (intOf i).toNat)
 case atStart => exact ⟨0, rfl, by omega, Below.refl _ _, fun j hj => absurd hj (by omega)⟩
 case round =>
  obtain ⟨k, rfl, hk, hb, hall⟩ := hrel
  by_cases hlt : k < xs.length
  ·have hcall := hp xs[k] (List.getElem_mem hlt) wr hb.out
   have HM := Lib.hid (List.getElem_mem hlt)
   obtain ⟨b, off, rfl, ⟨⟨h0, h1⟩, _⟩⟩ := (zZ (zI zBB hb.out h)).2 k hlt
   generalize hx : xs[k] = x at *
   have HX := Lib.hid hx
   clear hx hp h
   have hlt3 := zAF h0
   unfold zJ at h0 h1
   go_wp2_with (go_at_fn g; refine hcall.mono ?_; intro e w' hr; rcases hr.both with ⟨h1, rfl, hb'⟩ | ⟨h1, rfl, hb'⟩ <;> clear hr)
   ·have h1' := Lib.hid h1
    clear h1
    go_wp2
    go_ret
    exact ⟨k, rfl, ⟨fun _ => ⟨x, HM.out, h1'.out⟩, fun _ => by omega⟩, zA hb.out hb'⟩
   ·have h1' := Lib.hid h1
    clear h1
    go_wp2
    go_roundw
    case rel => exact ⟨k + 1, by go_num, by omega, zA hb.out hb', zAO _ k hall.out (fun _ => by rw [HX.out]; exact h1'.out)⟩
    case measure => simp [intOf]; omega
  ·clear hp h
   go_wp2
   go_ret
   refine ⟨-1, rfl, ⟨fun h => by omega, fun ⟨x, hx, hpx⟩ => ?_⟩, hb.out⟩
   obtain ⟨j, hj, rfl⟩ := List.getElem_of_mem hx
   exact (hall.out j (by omega) hj hpx).elim
theorem zNL (w : World) (v : Value) (xs : List Item) (h : Sl zCP 2 w v xs) (g : FuncId) (caps : Array Value) (eg : ∀ args w, (callFunc g args).run Tryz.prog w = .ok (.enter g args) w) (p : Item → Prop)
  (hp : ∀ x ∈ xs, ∀ w', Below w.heap.size w w' → Calls Tryz.prog g (#[.agg #[.int .i64 x.d, .int .i64 x.c]] ++ caps) w' (zAK (p x) w')) :
  Calls Tryz.prog 157 #[v, .func (.func g) #[] caps] w (zAK (∃ x ∈ xs, p x) w) := by
 go_enter Tryz.func157, Tryz.ntmps157
 go_wp2_with fail
 refine (indexFunc_item _ _ xs h g caps eg p hp).mono ?_
 rintro e w' ⟨i, rfl, hi, hb⟩
 have HI := Lib.hid hi
 clear hi h hp
 go_wp2
 go_ret
 exact ⟨decide (0 ≤ i), rfl, by rw [decide_eq_true_eq]; exact HI.out, hb⟩
theorem indexFunc_dim (w : World) (v : Value) (xs : List Dim) (h : Sl zGQ 3 w v xs) (g : FuncId) (caps : Array Value) (eg : ∀ args w, (callFunc g args).run Tryz.prog w = .ok (.enter g args) w) (p : Dim → Prop)
  (hp : ∀ x ∈ xs, ∀ w', Below w.heap.size w w' → Calls Tryz.prog g (#[.agg #[.int .i64 x.n, .int .i64 x.lo, .int .i64 x.up]] ++ caps) w' (zAK (p x) w')) :
  Calls Tryz.prog 262 #[v, .func (.func g) #[] caps] w fun e w' => ∃ i : Int, e = .returned (.int .i64 i) ∧ (0 ≤ i ↔ ∃ x ∈ xs, p x) ∧ Below w.heap.size w w' := by
 obtain ⟨a, cap, rfl, hm⟩ := zD h
 go_enter Tryz.func262, Tryz.ntmps262
 go_wp2
 go_loopw [8] (fun i wr => ∃ k : Nat, i = .int .i64 k ∧ k ≤ xs.length ∧ Hid (Below w.heap.size w wr) ∧ Hid (∀ j, j < k → (hj : j < xs.length) → ¬ p xs[j])) (fun i _ => xs.length - (intOf i).toNat)
 case atStart => exact ⟨0, rfl, by omega, Below.refl _ _, fun j hj => absurd hj (by omega)⟩
 case round =>
  obtain ⟨k, rfl, hk, hb, hall⟩ := hrel
  by_cases hlt : k < xs.length
  ·have hcall := hp xs[k] (List.getElem_mem hlt) wr hb.out
   have HM := Lib.hid (List.getElem_mem hlt)
   obtain ⟨b, off, rfl, ⟨⟨h0, h1, h2⟩, _⟩⟩ := (zZ (zI zBY hb.out h)).2 k hlt
   generalize hx : xs[k] = x at *
   have HX := Lib.hid hx
   clear hx hp h
   have hlt3 := zAF h0
   unfold zJ at h0 h1 h2
   go_wp2_with (go_at_fn g; refine hcall.mono ?_; intro e w' hr; rcases hr.both with ⟨h1, rfl, hb'⟩ | ⟨h1, rfl, hb'⟩ <;> clear hr)
   ·have h1' := Lib.hid h1
    clear h1
    go_wp2
    go_ret
    exact ⟨k, rfl, ⟨fun _ => ⟨x, HM.out, h1'.out⟩, fun _ => by omega⟩, zA hb.out hb'⟩
   ·have h1' := Lib.hid h1
    clear h1
    go_wp2
    go_roundw
    case rel => exact ⟨k + 1, by go_num, by omega, zA hb.out hb', zAO _ k hall.out (fun _ => by rw [HX.out]; exact h1'.out)⟩
    case measure => simp [intOf]; omega
  ·clear hp h
   go_wp2
   go_ret
   refine ⟨-1, rfl, ⟨fun h => by omega, fun ⟨x, hx, hpx⟩ => ?_⟩, hb.out⟩
   obtain ⟨j, hj, rfl⟩ := List.getElem_of_mem hx
   exact (hall.out j (by omega) hj hpx).elim
theorem zPH (w : World) (v : Value) (xs : List Dim) (h : Sl zGQ 3 w v xs) (g : FuncId) (caps : Array Value) (eg : ∀ args w, (callFunc g args).run Tryz.prog w = .ok (.enter g args) w) (p : Dim → Prop)
  (hp : ∀ x ∈ xs, ∀ w', Below w.heap.size w w' → Calls Tryz.prog g (#[.agg #[.int .i64 x.n, .int .i64 x.lo, .int .i64 x.up]] ++ caps) w' (zAK (p x) w')) :
  Calls Tryz.prog 259 #[v, .func (.func g) #[] caps] w (zAK (∃ x ∈ xs, p x) w) := by
 go_enter Tryz.func259, Tryz.ntmps259
 go_wp2_with fail
 refine (indexFunc_dim _ _ xs h g caps eg p hp).mono ?_
 rintro e w' ⟨i, rfl, hi, hb⟩
 have HI := Lib.hid hi
 clear hi h hp
 go_wp2
 go_ret
 exact ⟨decide (0 ≤ i), rfl, by rw [decide_eq_true_eq]; exact HI.out, hb⟩
theorem indexFunc_note (w : World) (v : Value) (xs : List Note) (h : Sl zBM 10 w v xs) (g : FuncId) (caps : Array Value) (eg : ∀ args w, (callFunc g args).run Tryz.prog w = .ok (.enter g args) w) (p : Note → Prop)
  (hp : ∀ x ∈ xs, ∀ w', Below w.heap.size w w' → Calls Tryz.prog g (#[.agg #[.int .i64 x.num, .int .i64 x.day, .int .u8 x.sg, .int .i64 x.d, .int .i64 x.l, .int .i64 x.fr, .int .i64 x.to, .int .i64 x.ca, .bool x.use, .int .u8 x.ways]] ++ caps) w' (zAK (p x) w')) :
  Calls Tryz.prog 178 #[v, .func (.func g) #[] caps] w fun e w' => ∃ i : Int, e = .returned (.int .i64 i) ∧ (0 ≤ i ↔ ∃ x ∈ xs, p x) ∧ Below w.heap.size w w' := by
 obtain ⟨a, cap, rfl, hm⟩ := zD h
 go_enter Tryz.func178, Tryz.ntmps178
 go_wp2
 go_loopw [8] (fun i wr => ∃ k : Nat, i = .int .i64 k ∧ k ≤ xs.length ∧ Hid (Below w.heap.size w wr) ∧ Hid (∀ j, j < k → (hj : j < xs.length) → ¬ p xs[j])) (fun i _ => xs.length - (intOf i).toNat)
 case atStart => exact ⟨0, rfl, by omega, Below.refl _ _, fun j hj => absurd hj (by omega)⟩
 case round =>
  obtain ⟨k, rfl, hk, hb, hall⟩ := hrel
  by_cases hlt : k < xs.length
  ·have hcall := hp xs[k] (List.getElem_mem hlt) wr hb.out
   have HM := Lib.hid (List.getElem_mem hlt)
   obtain ⟨b, off, rfl, ⟨⟨h0, h1, h2, h3, h4, h5, h6, h7, h8, h9⟩, _⟩⟩ := (zZ (zI zS hb.out h)).2 k hlt
   generalize hx : xs[k] = x at *
   have HX := Lib.hid hx
   clear hx hp h
   have hlt3 := zAF h0
   unfold zJ at h0 h1 h2 h3 h4 h5 h6 h7 h8 h9
   go_wp2_with (go_at_fn g; refine hcall.mono ?_; intro e w' hr; rcases hr.both with ⟨h1, rfl, hb'⟩ | ⟨h1, rfl, hb'⟩ <;> clear hr)
   ·have h1' := Lib.hid h1
    clear h1
    go_wp2
    go_ret
    exact ⟨k, rfl, ⟨fun _ => ⟨x, HM.out, h1'.out⟩, fun _ => by omega⟩, zA hb.out hb'⟩
   ·have h1' := Lib.hid h1
    clear h1
    go_wp2
    go_roundw
    case rel => exact ⟨k + 1, by go_num, by omega, zA hb.out hb', zAO _ k hall.out (fun _ => by rw [HX.out]; exact h1'.out)⟩
    case measure => simp [intOf]; omega
  ·clear hp h
   go_wp2
   go_ret
   refine ⟨-1, rfl, ⟨fun h => by omega, fun ⟨x, hx, hpx⟩ => ?_⟩, hb.out⟩
   obtain ⟨j, hj, rfl⟩ := List.getElem_of_mem hx
   exact (hall.out j (by omega) hj hpx).elim
theorem zEV (w : World) (v : Value) (xs : List Note) (h : Sl zBM 10 w v xs) (g : FuncId) (caps : Array Value) (eg : ∀ args w, (callFunc g args).run Tryz.prog w = .ok (.enter g args) w) (p : Note → Prop)
  (hp : ∀ x ∈ xs, ∀ w', Below w.heap.size w w' → Calls Tryz.prog g (#[.agg #[.int .i64 x.num, .int .i64 x.day, .int .u8 x.sg, .int .i64 x.d, .int .i64 x.l, .int .i64 x.fr, .int .i64 x.to, .int .i64 x.ca, .bool x.use, .int .u8 x.ways]] ++ caps) w' (zAK (p x) w')) :
  Calls Tryz.prog 139 #[v, .func (.func g) #[] caps] w (zAK (∃ x ∈ xs, p x) w) := by
 go_enter Tryz.func139, Tryz.ntmps139
 go_wp2_with fail
 refine (indexFunc_note _ _ xs h g caps eg p hp).mono ?_
 rintro e w' ⟨i, rfl, hi, hb⟩
 have HI := Lib.hid hi
 clear hi h hp
 go_wp2
 go_ret
 exact ⟨decide (0 ≤ i), rfl, by rw [decide_eq_true_eq]; exact HI.out, hb⟩
theorem in1_built (w : World) (n lo hi : Int) (b1 b2 : Nat) (h1 : zJ w b1 0 (.int .i64 lo)) (h2 : zJ w b2 0 (.int .i64 hi)) :
  Calls Tryz.prog 104 #[.int .i64 n, .pointer (some ⟨b1, 0, none⟩), .pointer (some ⟨b2, 0, none⟩)] w (zAK (¬ In n lo hi) w) := by
 unfold zJ at h1 h2
 by_cases g1 : n < lo
 ·go_enter Tryz.func104, Tryz.ntmps104
  go_wp2
  go_ret
  exact zAK.t (by unfold In; omega) (Below.refl _ _)
 ·by_cases g2 : hi < n
  ·go_enter Tryz.func104, Tryz.ntmps104
   go_wp2
   go_ret
   exact zAK.t (by unfold In; omega) (Below.refl _ _)
  ·go_enter Tryz.func104, Tryz.ntmps104
   go_wp2
   go_ret
   exact zAK.f (fun h => h ⟨by omega, by omega⟩) (Below.refl _ _)
theorem enter_in_built : Enters Tryz.prog 104 := enters_of Tryz.func104 (by kernel_rfl) rfl
theorem in_built (w : World) (lo hi : Int) (v : Value) (xs : List Int) (h : Sl zAJ 1 w v xs) :
  Calls Tryz.prog 56 #[.int .i64 lo, .int .i64 hi, v] w (zAK (∀ x ∈ xs, In x lo hi) w) := by
 obtain ⟨hb1, B1, B2⟩ := zDY w #[.int .i64 lo] #[.int .i64 hi] 3 3
 have c1 := B1 0 (.int .i64 lo) rfl
 have c2 := B2 0 (.int .i64 hi) rfl
 clear B1 B2
 have h1 := zI zN hb1 h
 clear h
 go_enter Tryz.func56, Tryz.ntmps56
 go_wp2_with fail
 generalize (w.alloc _).alloc _ = w1 at *
 refine (zEC _ _ xs h1 104 _ enter_in_built (fun x => ¬ In x lo hi) (fun x _ w' hb => by simp only [List.append_toArray, List.cons_append, List.nil_append]; exact in1_built w' x lo hi _ _ (zC hb c1) (zC hb c2))).mono ?_
 intro e w2 hr
 rcases hr.both with ⟨k1, rfl, hb2⟩ | ⟨k1, rfl, hb2⟩
 ·have K := Lib.hid k1
  clear k1 hr
  go_wp2
  go_ret
  exact zAK.f (fun h => by obtain ⟨x, hx, hn⟩ := K.out; exact hn (h x hx)) (zA hb1 hb2)
 ·have K := Lib.hid k1
  clear k1 hr
  go_wp2
  go_ret
  exact zAK.t (fun x hx => Classical.byContradiction fun hn => K.out ⟨x, hx, hn⟩) (zA hb1 hb2)
theorem in1_sheet (w : World) (n lo hi : Int) (b1 b2 : Nat) (h1 : zJ w b1 0 (.int .i64 lo)) (h2 : zJ w b2 0 (.int .i64 hi)) :
  Calls Tryz.prog 192 #[.int .i64 n, .pointer (some ⟨b1, 0, none⟩), .pointer (some ⟨b2, 0, none⟩)] w (zAK (¬ In n lo hi) w) := by
 unfold zJ at h1 h2
 by_cases g1 : n < lo
 ·go_enter Tryz.func192, Tryz.ntmps192
  go_wp2
  go_ret
  exact zAK.t (by unfold In; omega) (Below.refl _ _)
 ·by_cases g2 : hi < n
  ·go_enter Tryz.func192, Tryz.ntmps192
   go_wp2
   go_ret
   exact zAK.t (by unfold In; omega) (Below.refl _ _)
  ·go_enter Tryz.func192, Tryz.ntmps192
   go_wp2
   go_ret
   exact zAK.f (fun h => h ⟨by omega, by omega⟩) (Below.refl _ _)
theorem enter_in_sheet : Enters Tryz.prog 192 := enters_of Tryz.func192 (by kernel_rfl) rfl
theorem in_sheet (w : World) (lo hi : Int) (v : Value) (xs : List Int) (h : Sl zAJ 1 w v xs) :
  Calls Tryz.prog 156 #[.int .i64 lo, .int .i64 hi, v] w (zAK (∀ x ∈ xs, In x lo hi) w) := by
 obtain ⟨hb1, B1, B2⟩ := zDY w #[.int .i64 lo] #[.int .i64 hi] 3 3
 have c1 := B1 0 (.int .i64 lo) rfl
 have c2 := B2 0 (.int .i64 hi) rfl
 clear B1 B2
 have h1 := zI zN hb1 h
 clear h
 go_enter Tryz.func156, Tryz.ntmps156
 go_wp2_with fail
 generalize (w.alloc _).alloc _ = w1 at *
 refine (zEC _ _ xs h1 192 _ enter_in_sheet (fun x => ¬ In x lo hi) (fun x _ w' hb => by simp only [List.append_toArray, List.cons_append, List.nil_append]; exact in1_sheet w' x lo hi _ _ (zC hb c1) (zC hb c2))).mono ?_
 intro e w2 hr
 rcases hr.both with ⟨k1, rfl, hb2⟩ | ⟨k1, rfl, hb2⟩
 ·have K := Lib.hid k1
  clear k1 hr
  go_wp2
  go_ret
  exact zAK.f (fun h => by obtain ⟨x, hx, hn⟩ := K.out; exact hn (h x hx)) (zA hb1 hb2)
 ·have K := Lib.hid k1
  clear k1 hr
  go_wp2
  go_ret
  exact zAK.t (fun x hx => Classical.byContradiction fun hn => K.out ⟨x, hx, hn⟩) (zA hb1 hb2)
theorem in1_note (w : World) (n lo hi : Int) (b1 b2 : Nat) (h1 : zJ w b1 0 (.int .i64 lo)) (h2 : zJ w b2 0 (.int .i64 hi)) :
  Calls Tryz.prog 179 #[.int .i64 n, .pointer (some ⟨b1, 0, none⟩), .pointer (some ⟨b2, 0, none⟩)] w (zAK (¬ In n lo hi) w) := by
 unfold zJ at h1 h2
 by_cases g1 : n < lo
 ·go_enter Tryz.func179, Tryz.ntmps179
  go_wp2
  go_ret
  exact zAK.t (by unfold In; omega) (Below.refl _ _)
 ·by_cases g2 : hi < n
  ·go_enter Tryz.func179, Tryz.ntmps179
   go_wp2
   go_ret
   exact zAK.t (by unfold In; omega) (Below.refl _ _)
  ·go_enter Tryz.func179, Tryz.ntmps179
   go_wp2
   go_ret
   exact zAK.f (fun h => h ⟨by omega, by omega⟩) (Below.refl _ _)
theorem enter_in_note : Enters Tryz.prog 179 := enters_of Tryz.func179 (by kernel_rfl) rfl
theorem in_note (w : World) (lo hi : Int) (v : Value) (xs : List Int) (h : Sl zAJ 1 w v xs) :
  Calls Tryz.prog 143 #[.int .i64 lo, .int .i64 hi, v] w (zAK (∀ x ∈ xs, In x lo hi) w) := by
 obtain ⟨hb1, B1, B2⟩ := zDY w #[.int .i64 lo] #[.int .i64 hi] 3 3
 have c1 := B1 0 (.int .i64 lo) rfl
 have c2 := B2 0 (.int .i64 hi) rfl
 clear B1 B2
 have h1 := zI zN hb1 h
 clear h
 go_enter Tryz.func143, Tryz.ntmps143
 go_wp2_with fail
 generalize (w.alloc _).alloc _ = w1 at *
 refine (zEC _ _ xs h1 179 _ enter_in_note (fun x => ¬ In x lo hi) (fun x _ w' hb => by simp only [List.append_toArray, List.cons_append, List.nil_append]; exact in1_note w' x lo hi _ _ (zC hb c1) (zC hb c2))).mono ?_
 intro e w2 hr
 rcases hr.both with ⟨k1, rfl, hb2⟩ | ⟨k1, rfl, hb2⟩
 ·have K := Lib.hid k1
  clear k1 hr
  go_wp2
  go_ret
  exact zAK.f (fun h => by obtain ⟨x, hx, hn⟩ := K.out; exact hn (h x hx)) (zA hb1 hb2)
 ·have K := Lib.hid k1
  clear k1 hr
  go_wp2
  go_ret
  exact zAK.t (fun x hx => Classical.byContradiction fun hn => K.out ⟨x, hx, hn⟩) (zA hb1 hb2)
theorem in1_size (w : World) (n lo hi : Int) (b1 b2 : Nat) (h1 : zJ w b1 0 (.int .i64 lo)) (h2 : zJ w b2 0 (.int .i64 hi)) :
  Calls Tryz.prog 264 #[.int .i64 n, .pointer (some ⟨b1, 0, none⟩), .pointer (some ⟨b2, 0, none⟩)] w (zAK (¬ In n lo hi) w) := by
 unfold zJ at h1 h2
 by_cases g1 : n < lo
 ·go_enter Tryz.func264, Tryz.ntmps264
  go_wp2
  go_ret
  exact zAK.t (by unfold In; omega) (Below.refl _ _)
 ·by_cases g2 : hi < n
  ·go_enter Tryz.func264, Tryz.ntmps264
   go_wp2
   go_ret
   exact zAK.t (by unfold In; omega) (Below.refl _ _)
  ·go_enter Tryz.func264, Tryz.ntmps264
   go_wp2
   go_ret
   exact zAK.f (fun h => h ⟨by omega, by omega⟩) (Below.refl _ _)
theorem enter_in_size : Enters Tryz.prog 264 := enters_of Tryz.func264 (by kernel_rfl) rfl
theorem in_size (w : World) (lo hi : Int) (v : Value) (xs : List Int) (h : Sl zAJ 1 w v xs) :
  Calls Tryz.prog 263 #[.int .i64 lo, .int .i64 hi, v] w (zAK (∀ x ∈ xs, In x lo hi) w) := by
 obtain ⟨hb1, B1, B2⟩ := zDY w #[.int .i64 lo] #[.int .i64 hi] 3 3
 have c1 := B1 0 (.int .i64 lo) rfl
 have c2 := B2 0 (.int .i64 hi) rfl
 clear B1 B2
 have h1 := zI zN hb1 h
 clear h
 go_enter Tryz.func263, Tryz.ntmps263
 go_wp2_with fail
 generalize (w.alloc _).alloc _ = w1 at *
 refine (zEC _ _ xs h1 264 _ enter_in_size (fun x => ¬ In x lo hi) (fun x _ w' hb => by simp only [List.append_toArray, List.cons_append, List.nil_append]; exact in1_size w' x lo hi _ _ (zC hb c1) (zC hb c2))).mono ?_
 intro e w2 hr
 rcases hr.both with ⟨k1, rfl, hb2⟩ | ⟨k1, rfl, hb2⟩
 ·have K := Lib.hid k1
  clear k1 hr
  go_wp2
  go_ret
  exact zAK.f (fun h => by obtain ⟨x, hx, hn⟩ := K.out; exact hn (h x hx)) (zA hb1 hb2)
 ·have K := Lib.hid k1
  clear k1 hr
  go_wp2
  go_ret
  exact zAK.t (fun x hx => Classical.byContradiction fun hn => K.out ⟨x, hx, hn⟩) (zA hb1 hb2)
end
section
open Go.RowKit Go.Shelf
theorem zJI (w : World) (n : Int) : Calls Tryz.prog 191 #[.int .i64 n] w fun e w' => e = .returned (.bool false) ∧ w = w' := by
 go_enter Tryz.func191, Tryz.ntmps191
 go_wp2
 go_ret
 exact ⟨by simp, rfl⟩
def zLO (a b : Int) : Int := if a < b then -1 else if b < a then 1 else 0
theorem zGM (w : World) (a b : Int) : Calls Tryz.prog 155 #[.int .i64 a, .int .i64 b] w fun e w' => e = .returned (.int .i64 (zLO a b)) ∧ w = w' := by
 by_cases h1 : a < b
 ·go_enter Tryz.func155, Tryz.ntmps155
  go_wp2_with (go_at_call 191; refine (zJI _ _).mono ?_; rintro e w' ⟨rfl, rfl⟩)
  go_ret
  exact ⟨zBT (by unfold zLO; rw [if_pos h1]), rfl⟩
 ·by_cases h2 : b < a
  ·go_enter Tryz.func155, Tryz.ntmps155
   go_wp2_with (go_at_call 191; refine (zJI _ _).mono ?_; rintro e w' ⟨rfl, rfl⟩)
   go_ret
   exact ⟨zBT (by unfold zLO; rw [if_neg (by omega), if_pos h2]), rfl⟩
  ·go_enter Tryz.func155, Tryz.ntmps155
   go_wp2_with (go_at_call 191; refine (zJI _ _).mono ?_; rintro e w' ⟨rfl, rfl⟩)
   go_ret
   exact ⟨zBT (by unfold zLO; rw [if_neg (by omega), if_neg (by omega)]), rfl⟩
theorem zJM (w : World) (v : Value) (l : List Int) (n : Int) (h : Sl zAJ 1 w v l) :
  Calls Tryz.prog 35 #[v, .int .i64 n] w fun e w' => e = .returned (.int .i64 (zJA l n)) ∧ w = w' := by
 obtain ⟨a, cap, rfl, hm⟩ := zD h
 go_enter Tryz.func35, Tryz.ntmps35
 go_wp2
 go_loop [8] (fun i => ∃ k : Nat, i = .int .i64 k ∧ k ≤ l.length ∧ Hid (∀ j, j < k → (hj : j < l.length) → l[j] ≠ n)) (fun i => l.length - (intOf i).toNat)
 case atStart => exact ⟨0, rfl, by omega, fun j hj => absurd hj (by omega)⟩
 case round =>
  obtain ⟨k, rfl, hk, hall⟩ := hrel
  by_cases hlt : k < l.length
  ·obtain ⟨b, off, rfl, h0, _⟩ := (zZ h).2 k hlt
   generalize hx : l[k] = x at *
   have HX := Lib.hid hx
   clear hx h
   unfold zJ at h0
   rw [Nat.mul_one] at h0
   by_cases he : (n == x) = true
   ·go_wp2
    go_ret
    exact ⟨zBT (by rw [idxI_at l n k hlt (by rw [HX.out]; simpa using (by simpa using he : n = x).symm) hall.out]), rfl⟩
   ·have he' : (n == x) = false := by simpa using he
    clear he
    go_wp2
    go_round
    case rel => exact ⟨k + 1, by go_num, by omega, zAO _ k hall.out (fun _ => by rw [HX.out]; simpa using fun h => (by simpa using he' : ¬ n = x) h.symm)⟩
    case measure => simp [intOf]; omega
  ·clear h
   go_wp2
   go_ret
   exact ⟨zBT (by rw [idxI_none l n (fun j hj => hall.out j (by omega) hj)]), rfl⟩
theorem zEI (w : World) (v : Value) (l : List Int) (n : Int) (h : Sl zAJ 1 w v l) :
  Calls Tryz.prog 79 #[v, .int .i64 n] w (RetS (n ∈ l) w) := by
 go_enter Tryz.func79, Tryz.ntmps79
 go_wp2_with fail
 refine (zJM _ _ l n h).mono ?_
 rintro e w' ⟨rfl, rfl⟩
 have H : Hid (0 ≤ zJA l n ↔ n ∈ l) := ⟨fun h => Classical.byContradiction fun hn => by have := zPJ l n hn; omega, fun h => idxI_in l n h⟩
 generalize zJA l n = i at *
 clear h
 go_wp2
 go_ret
 exact ⟨decide (0 ≤ i), rfl, by rw [decide_eq_true_eq]; exact H.out, rfl⟩
theorem zEY (w : World) (x : Heap) :
  Calls Tryz.prog 68 #[.agg #[.int .i64 x.d, .int .i64 x.l, .int .i64 x.lo, .int .i64 x.hi]] w fun e w' => e = .returned (.agg #[.int .i64 x.d, .int .i64 x.l]) ∧ Below w.heap.size w w' := by
 go_enter Tryz.func68, Tryz.ntmps68
 go_wp2
 refine bodyPost_ret (v := .agg #[.int .i64 x.d, .int .i64 x.l]) ?_ rfl ⟨rfl, ?_⟩
 ·simp [results, Tryz.results68, go_sem]
 ·exact zA (zB _ _) (zB _ _)
theorem name_sheet (w : World) (x : Issue) (vi vd : Value) (a a' : Option Addr) (n n' c c' : Nat) (h1 : vi = .slice a n c) (h2 : vd = .slice a' n' c') :
  Calls Tryz.prog 160 #[.agg #[.int .i64 x.d, .int .i64 x.l, .int .u8 x.k, vi, vd]] w fun e w' => e = .returned (.agg #[.int .i64 x.d, .int .i64 x.l]) ∧ Below w.heap.size w w' := by
 subst h1 h2
 go_enter Tryz.func160, Tryz.ntmps160
 go_wp2
 refine bodyPost_ret (v := .agg #[.int .i64 x.d, .int .i64 x.l]) ?_ rfl ⟨rfl, ?_⟩
 ·simp [results, Tryz.results160, go_sem]
 ·exact zA (zB _ _) (zB _ _)
def DimOkP (d : Dim) : Prop := (∀ x ∈ [d.n, d.lo, d.up], In x 0 1000000000) ∧ d.lo ≤ d.up
theorem dimOkP (d : Dim) : DimOkP d ↔ zPB d := by
 unfold DimOkP zPB In
 simp
 omega
def Row3 (w : World) (b : Nat) (x y z : Int) : Prop := zJ w b 0 (.int .i64 x) ∧ zJ w b 1 (.int .i64 y) ∧ zJ w b 2 (.int .i64 z)
theorem sl_row3 {w : World} {b : Nat} {x y z : Int} (h : Row3 w b x y z) (hx : I64 x) (hy : I64 y) (hz : I64 z) : Sl zAJ 1 w (.slice (some ⟨b, 0, none⟩) 3 3) [x, y, z] := by
 refine ⟨_, 3, rfl, by simp, fun k hk => ⟨b, 0, rfl, ?_⟩⟩
 match k, hk with
 | 0, _ => exact ⟨h.1, hx⟩
 | 1, _ => exact ⟨h.2.1, hy⟩
 | 2, _ => exact ⟨h.2.2, hz⟩
theorem sl_row2 {w : World} {b : Nat} {x y : Int} (h : zJ w b 0 (.int .i64 x) ∧ zJ w b 1 (.int .i64 y)) (hx : I64 x) (hy : I64 y) : Sl zAJ 1 w (.slice (some ⟨b, 0, none⟩) 2 2) [x, y] := by
 refine ⟨_, 2, rfl, by simp, fun k hk => ⟨b, 0, rfl, ?_⟩⟩
 match k, hk with
 | 0, _ => exact ⟨h.1, hx⟩
 | 1, _ => exact ⟨h.2, hy⟩
theorem sl_row1 {w : World} {b : Nat} {x : Int} (h : zJ w b 0 (.int .i64 x)) (hx : I64 x) : Sl zAJ 1 w (.slice (some ⟨b, 0, none⟩) 1 1) [x] := by
 refine ⟨_, 1, rfl, by simp, fun k hk => ⟨b, 0, rfl, ?_⟩⟩
 match k, hk with
 | 0, _ => exact ⟨h, hx⟩
open Classical in
noncomputable def zIG (d : Dim) : Int := if zPB d then 0 else 10
theorem check_size (w : World) (d : Dim) (hd : I64 d.n ∧ I64 d.lo ∧ I64 d.up) : Calls Tryz.prog 261 #[.agg #[.int .i64 d.n, .int .i64 d.lo, .int .i64 d.up]] w fun e w' => e = .returned (.int .i64 (zIG d)) ∧ Below w.heap.size w w' := by
 obtain ⟨hb1, B1⟩ := zAZ w #[.int .i64 d.n, .int .i64 d.lo, .int .i64 d.up] 252
 have c0 := B1 0 (.int .i64 d.n) rfl
 have c1 := B1 1 (.int .i64 d.lo) rfl
 have c2 := B1 2 (.int .i64 d.up) rfl
 clear B1
 have C1 := Lib.hid c1
 have C2 := Lib.hid c2
 unfold zJ at c0 c1 c2
 have hlt := zAF C1.out
 go_enter Tryz.func261, Tryz.ntmps261
 go_wp2_with fail
 have hb2 := zA hb1 (zB (w.alloc (.cells #[.int .i64 d.n, .int .i64 d.lo, .int .i64 d.up] 252)) (.cells #[.int .i64 d.n, .int .i64 d.lo, .int .i64 d.up] 3))
 have B2 := zU (w.alloc (.cells #[.int .i64 d.n, .int .i64 d.lo, .int .i64 d.up] 252)) #[.int .i64 d.n, .int .i64 d.lo, .int .i64 d.up] 3
 rw [World.size_alloc] at B2
 have row : Row3 ((w.alloc (.cells #[.int .i64 d.n, .int .i64 d.lo, .int .i64 d.up] 252)).alloc (.cells #[.int .i64 d.n, .int .i64 d.lo, .int .i64 d.up] 3)) (w.heap.size + 1) d.n d.lo d.up := ⟨B2 0 _ rfl, B2 1 _ rfl, B2 2 _ rfl⟩
 have C1 := Lib.hid (zC (zB _ (.cells #[.int .i64 d.n, .int .i64 d.lo, .int .i64 d.up] 3)) C1.out)
 have C2 := Lib.hid (zC (zB _ (.cells #[.int .i64 d.n, .int .i64 d.lo, .int .i64 d.up] 3)) C2.out)
 clear c0 c1 c2 B2 hlt hb1
 generalize (w.alloc _).alloc _ = w1 at *
 refine (in_size _ _ _ _ [d.n, d.lo, d.up] (sl_row3 row hd.1 hd.2.1 hd.2.2)).mono ?_
 intro e w2 h
 rcases h.both with ⟨g1, rfl, hb3⟩ | ⟨g1, rfl, hb3⟩
 ·have G1 := Lib.hid g1
  clear h g1
  have c1 := zC hb3 C1.out
  have c2 := zC hb3 C2.out
  unfold zJ at c1 c2
  by_cases g2 : d.up < d.lo
  ·go_wp2
   go_ret
   exact ⟨zBT (by unfold zIG; rw [if_neg]; intro h; have := ((dimOkP d).2 h).2; omega), zA hb2 hb3⟩
  ·go_wp2
   go_ret
   exact ⟨zBT (by unfold zIG; rw [if_pos ((dimOkP d).1 ⟨G1.out, by omega⟩)]), zA hb2 hb3⟩
 ·have G1 := Lib.hid g1
  clear h g1
  go_wp2
  go_ret
  exact ⟨zBT (by unfold zIG; rw [if_neg]; intro h; exact G1.out ((dimOkP d).2 h).1), zA hb2 hb3⟩
end
end Go.Proofs.YtpolpdegpbahiaaGreatDoor
