/- Slices that may be written to; 'append([]T{}, s...)' as an operation of a region that draws its order. -/
import Derived.Tactics
import Derived.Tactics2
import Derived.KernelRfl
import Derived.Laws.OwnMore
import Derived.ArgAppend
import Derived.Test.YtpolpdegpbahiaaGreatDoorM01
set_option linter.all false
set_option maxRecDepth 100000
set_option maxHeartbeats 12800000

namespace Go.Proofs.YtpolpdegpbahiaaGreatDoor
section
open Go.RowKit
theorem sl_later {α : Type} {E : World → Nat → Nat → α → Prop} {sz : Nat} {w : World} {v : Value} {xs : List α} (hs : zHU E) (h : Sl E sz w v xs) : ∀ x, Sl E sz (w.later x) v xs :=
 fun x => zI hs (zE w x) h
end
section
open Go.RowKit
def zIC (R : List Issue) (k : Nat) : Prop := ∀ h : k < R.length,
 (k = 0 → R[k].l = 1) ∧ (∀ h0 : 0 < k, R[k - 1].d < R[k].d ∧ R[k].l = 1 ∨ R[k - 1].d = R[k].d ∧ R[k].l = R[k - 1].l + 1 ∧ R[k].k = R[k - 1].k)
def zOL (R : List Issue) (k : Nat) : Prop := (∀ h : k < R.length, zHI R[k]) ∧ zIC R k
def zLE (R : List Issue) (k : Nat) : Prop := ∀ h : k < R.length, ∀ j, (hj : j < R[k].items.length) → R[k].items[j].d ∈ nums R
def zEM (R : List Issue) : Prop := In R.length 1 60 ∧ (∀ k, k < R.length → zOL R k) ∧ (∀ k, k < R.length → zLE R k) ∧ (nums R).length ≤ 20
theorem listed02 (w : World) (v : Value) (R : List Issue) (h : Sl zAU 5 w v R) :
  Calls Tryz.prog 150 #[.agg #[v]] w (zAK (zEM R) w) := by
 obtain ⟨hb1, B1⟩ := zAZ w #[v] 24
 have c0 := B1 0 v rfl
 clear B1
 obtain ⟨a, cap, rfl, hm⟩ := zD h
 have h1 := zI zP hb1 h
 have C0 := Lib.hid c0
 unfold zJ at c0
 clear h
 go_enter Tryz.func150, Tryz.ntmps150
 go_wp2_with fail
 generalize w.alloc _ = w1 at *
 refine (zJZ _ _ _ _).mono ?_
 intro e w2 hh
 rcases hh.both with ⟨hl, rfl, rfl⟩ | ⟨hl, rfl, rfl⟩
 case inr => go_wp2; go_ret; exact zAK.f (fun h => hl h.1) hb1
 clear hh
 go_wp2
 clear c0
 have hl2 := hl.2
 go_loopw [3] (fun i wr => ∃ k : Nat, i = .int .i64 k ∧ k ≤ R.length ∧ Below w1.heap.size w1 wr ∧ ∀ j, j < k → zOL R j) (fun i _ => R.length - (intOf i).toNat)
 case atStart => exact ⟨0, rfl, by omega, Below.refl _ _, fun j hj => absurd hj (by omega)⟩
 case round =>
  obtain ⟨k, rfl, hk, hb, hall⟩ := hrel
  have HALL := Lib.hid hall
  clear hall
  have e0 := zC hb C0.out
  unfold zJ at e0
  by_cases hlt : k < R.length
  ·have hX := (zZ (zI zP hb h1)).2
   obtain ⟨b, off, rfl, ⟨q0, q1, q2⟩, hnum, vi, vd, q3, q4, si, sd⟩ := hX k hlt
   have HEA : Hid (zOL R k ↔ zHI R[k] ∧ (k = 0 → R[k].l = 1) ∧ (∀ h0 : 0 < k, R[k - 1].d < R[k].d ∧ R[k].l = 1 ∨ R[k - 1].d = R[k].d ∧ R[k].l = R[k - 1].l + 1 ∧ R[k].k = R[k - 1].k)) :=
    ⟨fun h => ⟨h.1 hlt, h.2 hlt⟩, fun h => ⟨fun _ => h.1, fun _ => h.2⟩⟩
   unfold zJ at q0 q1 q2 q3 q4
   generalize hx : R[k] = x at *
   clear hx hX
   obtain ⟨ai, capi, rfl, _⟩ := zD si
   obtain ⟨ad, capd, rfl, _⟩ := zD sd
   have hbx := zB wr (.cells #[.int .i64 x.d, .int .i64 x.l, .int .u8 x.k, .slice ai x.items.length capi, .slice ad x.dims.length capd] 107)
   have x0 := zU wr #[.int .i64 x.d, .int .i64 x.l, .int .u8 x.k, .slice ai x.items.length capi, .slice ad x.dims.length capd] 107 0 (.int .i64 x.d) rfl
   have x1 := zU wr #[.int .i64 x.d, .int .i64 x.l, .int .u8 x.k, .slice ai x.items.length capi, .slice ad x.dims.length capd] 107 1 (.int .i64 x.l) rfl
   have x2 := zU wr #[.int .i64 x.d, .int .i64 x.l, .int .u8 x.k, .slice ai x.items.length capi, .slice ad x.dims.length capd] 107 2 (.int .u8 x.k) rfl
   go_wp2_with fail
   generalize hwA : wr.alloc _ = wA at *
   clear hwA
   refine (issue02 _ _ _ x ⟨zI zBB hbx si, zI zBY hbx sd, hnum⟩).mono ?_
   intro e w2 hh
   rcases hh.both with ⟨hok, rfl, hb2⟩ | ⟨hok, rfl, hb2⟩
   case inr =>
    go_wp2
    go_ret
    exact zAK.f (fun h => hok (HEA.out.1 (h.2.1 k hlt)).1) (zA hb1 (zA hb (zA hbx hb2)))
   clear hh
   have hb3 := zA hb (zA hbx hb2)
   have y0 := zC hb2 x0
   have y1 := zC hb2 x1
   have y2 := zC hb2 x2
   have hxd := hok.1.1.1
   have hX := (zZ (zI zP hb3 h1)).2
   have e1 := zC hb3 C0.out
   have z1 := zAF y0
   have z2 := zAF e1
   clear x0 x1 x2 q0 q1 q2 q3 q4 si sd hbx hb2
   unfold zJ at y0 y1 y2 e1
   by_cases h0 : k = 0
   ·have hk0 : (k : Int) ≤ 0 := by omega
    have H0 := Lib.hid h0
    clear h0 hX
    by_cases hl1 : (x.l != 1) = true
    ·go_wp2
     go_ret
     exact zAK.f (fun h => by have := (HEA.out.1 (h.2.1 k hlt)).2.1 H0.out; rw [this] at hl1; simp at hl1) (zA hb1 (zA hb3 (zB _ _)))
    ·have hl1' : (x.l != 1) = false := by simpa using hl1
     go_wp2
     go_roundw
     case rel => exact ⟨k + 1, by go_num, by omega, zA hb3 (zB _ _), zAO _ k HALL.out (HEA.out.2 ⟨hok, fun _ => by simpa using hl1', fun h => absurd h (by have := H0.out; omega)⟩)⟩
     case measure => simp [intOf]; omega
   ·obtain ⟨b', off', hbb, ⟨p0, p1, p2⟩, hpn, pi, pd, p3, p4, ssi, ssd⟩ := hX (k - 1) (by omega)
    cases hbb
    obtain ⟨bi, bapi, rfl, _⟩ := zD ssi
    obtain ⟨bd, bapd, rfl, _⟩ := zD ssd
    have z3 := zAF p0
    unfold zJ at p0 p1 p2 p3 p4
    have hk0 : 0 < k := by omega
    have hpok := (HALL.out (k - 1) (by omega)).1 (by omega)
    generalize hz : R[k - 1] = z at *
    have HZ := Lib.hid hz
    clear hX hz h0
    have hpl := hpok.1.2.1
    clear ssi ssd hpok
    have hp1 := hpl.1
    have hp2 := hpl.2
    have HEB : Hid (zOL R k ↔ zHI x ∧ (z.d < x.d ∧ x.l = 1 ∨ z.d = x.d ∧ x.l = z.l + 1 ∧ x.k = z.k)) :=
     ⟨fun h => ⟨(HEA.out.1 h).1, by have := (HEA.out.1 h).2.2 hk0; rw [HZ.out] at this; exact this⟩,
      fun h => HEA.out.2 ⟨h.1, fun h0 => absurd hk0 (by omega), fun _ => by rw [HZ.out]; exact h.2⟩⟩
    clear HEA
    by_cases hlt1 : x.d < z.d
    ·go_wp2
     go_ret
     exact zAK.f (fun h => by have := (HEB.out.1 (h.2.1 k hlt)).2; rcases this with h | h <;> omega) (zA hb1 (zA hb3 (zB _ _)))
    ·by_cases hlt2 : z.d < x.d
     ·by_cases hl1 : (x.l != 1) = true
      ·go_wp2
       go_ret
       exact zAK.f (fun h => by have := (HEB.out.1 (h.2.1 k hlt)).2; rcases this with h | h; (rw [h.2] at hl1; simp at hl1); (omega)) (zA hb1 (zA hb3 (zB _ _)))
      ·have hl1' : (x.l != 1) = false := by simpa using hl1
       go_wp2
       go_roundw
       case rel => exact ⟨k + 1, by go_num, by omega, zA hb3 (zB _ _), zAO _ k HALL.out (HEB.out.2 ⟨hok, .inl ⟨hlt2, by simpa using hl1'⟩⟩)⟩
       case measure => simp [intOf]; omega
     ·by_cases hl1 : (x.l != z.l + 1) = true
      ·go_wp2
       go_ret
       exact zAK.f (fun h => by have := (HEB.out.1 (h.2.1 k hlt)).2; rcases this with h | h; (omega); (rw [h.2.1] at hl1; simp at hl1)) (zA hb1 (zA hb3 (zB _ _)))
      ·have hl1' : (x.l != z.l + 1) = false := by simpa using hl1
       by_cases hl2 : (x.k != z.k) = true
       ·go_wp2
        go_ret
        exact zAK.f (fun h => by have := (HEB.out.1 (h.2.1 k hlt)).2; rcases this with h | h; (omega); (rw [h.2.2] at hl2; simp at hl2)) (zA hb1 (zA hb3 (zB _ _)))
       ·have hl2' : (x.k != z.k) = false := by simpa using hl2
        go_wp2
        go_roundw
        case rel => exact ⟨k + 1, by go_num, by omega, zA hb3 (zB _ _), zAO _ k HALL.out (HEB.out.2 ⟨hok, .inr ⟨by omega, by simpa using hl1', by simpa using hl2'⟩⟩)⟩
        case measure => simp [intOf]; omega
  ·have HA : Hid (∀ j, j < R.length → zOL R j) := fun j hj => HALL.out j (by omega)
   have hb2 := zA hb1 hb
   have hr := zI zP hb h1
   clear HALL hb1
   go_wp2_with fail
   refine (zFK _ _ R hr (by omega)).mono ?_
   rintro e w3 ⟨u, rfl, hu, hb3⟩
   have hb4 := zA hb2 hb3
   have e3 := zC hb3 e0
   have hr3 := zI zP hb3 hr
   clear e0 h1 hr hb hb2 hb3 C0 hk hlt
   unfold zJ at e3
   obtain ⟨au, capu, rfl, hmu⟩ := zD hu
   go_wp2
   go_loop [7] (fun i => ∃ k : Nat, i = .int .i64 k ∧ k ≤ R.length ∧ ∀ j, j < k → zLE R j) (fun i => R.length - (intOf i).toNat)
   case atStart => exact ⟨0, rfl, by omega, fun j hj => absurd hj (by omega)⟩
   case round =>
    obtain ⟨k, rfl, hk, hall⟩ := hrel
    have HALL := Lib.hid hall
    clear hall
    by_cases hlt : k < R.length
    ·obtain ⟨b, off, rfl, ⟨q0, q1, q2⟩, hnum, vi, vd, q3, q4, si, sd⟩ := (zZ hr3).2 k hlt
     have HIN : Hid (zLE R k ↔ ∀ j, (hj : j < R[k].items.length) → R[k].items[j].d ∈ nums R) := ⟨fun h => h hlt, fun h _ => h⟩
     unfold zJ at q3
     generalize hx : R[k] = x at *
     clear hx q0 q1 q2 q4 sd
     obtain ⟨ai, capi, rfl, hmi⟩ := zD si
     go_wp2
     go_loop [8] (fun i => ∃ m : Nat, i = .int .i64 m ∧ m ≤ x.items.length ∧ ∀ j, j < m → (hj : j < x.items.length) → x.items[j].d ∈ nums R) (fun i => x.items.length - (intOf i).toNat)
     case atStart => exact ⟨0, rfl, by omega, fun j hj => absurd hj (by omega)⟩
     case round =>
      obtain ⟨m, rfl, hmk, hall⟩ := hrel
      have HALM := Lib.hid hall
      clear hall
      by_cases hlm : m < x.items.length
      ·obtain ⟨b', off', rfl, ⟨p0, _⟩, _⟩ := (zZ si).2 m hlm
       unfold zJ at p0
       generalize hy : x.items[m] = y at *
       have HY := Lib.hid hy
       clear hy si
       go_wp2_with fail
       refine (zLY _ _ _ y.d hu).mono ?_
       rintro e w4 ⟨rfl, rfl⟩
       by_cases hin : y.d ∈ nums R
       ·have hge := idxI_in _ _ hin
        generalize zJA (nums R) y.d = ix at *
        go_wp2
        go_round
        case rel => exact ⟨m + 1, by go_num, by omega, zAO _ m HALM.out (fun _ => by rw [HY.out]; exact hin)⟩
        case measure => simp [intOf]; omega
       ·have hge := zPJ _ _ hin
        generalize zJA (nums R) y.d = ix at *
        go_wp2
        go_ret
        exact zAK.f (fun h => hin (by have := HIN.out.1 (h.2.2.1 k hlt) m hlm; rw [HY.out] at this; exact this)) hb4
      ·clear si
       go_wp2
       go_round
       case rel => exact ⟨k + 1, by go_num, by omega, zAO _ k HALL.out (HIN.out.2 (fun j hj => HALM.out j (by omega) hj))⟩
       case measure => simp [intOf]; omega
    ·clear hr3
     by_cases h20 : ((nums R).length : Int) ≤ 20
     ·go_wp2
      go_ret
      exact (zAK.t ⟨hl, HA.out, fun j hj => HALL.out j (by omega), by omega⟩ hb4 : zAK (zEM R) w (Ending.returned (Value.bool true)) _)
     ·go_wp2
      go_ret
      exact (zAK.f (fun h => by have := h.2.2.2; omega) hb4 : zAK (zEM R) w (Ending.returned (Value.bool false)) _)
end
section
def zDT (f : Int → Int) (x : Issue) : Nat → Int → Int
 | 0, acc => acc
 | j + 1, acc => match x.items[j]? with
   | none => zDT f x j acc
   | some y => max (zDT f x j acc) (1 + f y.d)
def zDU (R : List Issue) (f : Int → Int) : Nat → Int → Int
 | 0, _ => 0
 | k + 1, n => match R[k]? with
   | none => zDU R f k n
   | some x => if n = x.d then zDT f x x.items.length (max (zDU R f k x.d) 1) else zDU R f k n
def dep (R : List Issue) : Nat → Int → Int
 | 0, _ => 0
 | r + 1, n => zDU R (dep R r) R.length n
def mid (R : List Issue) (f : Int → Int) (k : Nat) (x : Issue) (m : Nat) (n : Int) : Int :=
 if n = x.d then zDT f x m (max (zDU R f k x.d) 1) else zDU R f k n
theorem zOB (R : List Issue) (f : Int → Int) (k : Nat) (h : k < R.length) (n : Int) : zDU R f (k + 1) n = mid R f k R[k] R[k].items.length n := by
 simp only [zDU, List.getElem?_eq_getElem h, mid]
theorem mid_zero (R : List Issue) (f : Int → Int) (k : Nat) (x : Issue) (n : Int) : mid R f k x 0 n = if n = x.d then max (zDU R f k x.d) 1 else zDU R f k n := rfl
theorem mid_at (R : List Issue) (f : Int → Int) (k : Nat) (x : Issue) (m : Nat) : mid R f k x m x.d = zDT f x m (max (zDU R f k x.d) 1) := by
 unfold mid; rw [if_pos rfl]
theorem mid_succ (R : List Issue) (f : Int → Int) (k : Nat) (x : Issue) (m : Nat) (h : m < x.items.length) (n : Int) :
  mid R f k x (m + 1) n = if n = x.d then max (mid R f k x m x.d) (1 + f x.items[m].d) else mid R f k x m n := by
 unfold mid
 by_cases e : n = x.d
 ·simp [e, zDT, List.getElem?_eq_getElem h]
 ·simp [e]
theorem issFold_bd (f : Int → Int) (x : Issue) (B : Int) (hf : ∀ n, 0 ≤ f n ∧ f n ≤ B) (m : Nat) (acc : Int) (h0 : 0 ≤ acc) (h1 : acc ≤ B + 1) : 0 ≤ zDT f x m acc ∧ zDT f x m acc ≤ B + 1 := by
 induction m with
 | zero => exact ⟨h0, h1⟩
 | succ m ih =>
   simp only [zDT]
   split
   ·exact ih
   ·rename_i y _
    have := hf y.d
    omega
theorem zPP (R : List Issue) (f : Int → Int) (B : Int) (hB : 0 ≤ B) (hf : ∀ n, 0 ≤ f n ∧ f n ≤ B) (k : Nat) (n : Int) : 0 ≤ zDU R f k n ∧ zDU R f k n ≤ B + 1 := by
 induction k generalizing n with
 | zero => simp [zDU]; omega
 | succ k ih =>
   simp only [zDU]
   split
   ·exact ih n
   ·rename_i x _
    split
    ·have := ih x.d
     exact issFold_bd f x B hf _ _ (by omega) (by omega)
    ·exact ih n
theorem zJP (R : List Issue) (r : Nat) (n : Int) : 0 ≤ dep R r n ∧ dep R r n ≤ r := by
 induction r generalizing n with
 | zero => simp [dep]
 | succ r ih =>
   have := zPP R (dep R r) r (by omega) ih R.length n
   simp only [dep]
   omega
theorem mid_bd (R : List Issue) (r k : Nat) (x : Issue) (m : Nat) (n : Int) : 0 ≤ mid R (dep R r) k x m n ∧ mid R (dep R r) k x m n ≤ r + 1 := by
 unfold mid
 split
 ·have := zPP R (dep R r) r (by omega) (zJP R r) k x.d
  exact issFold_bd _ x r (zJP R r) m _ (by omega) (by omega)
 ·exact zPP R (dep R r) r (by omega) (zJP R r) k n
theorem set_map (l : List Int) (g : Int → Value) (d : Int) (v : Value) (hd : d ∈ l) (hl : l.Nodup) : (l.map g).set (l.idxOf d) v = l.map (fun n => if n = d then v else g n) := by
 induction l with
 | nil => simp at hd
 | cons a l ih =>
   by_cases e : a = d
   ·subst e
    simp only [List.map_cons, List.idxOf_cons_self, List.set_cons_zero, if_true]
    congr 1
    refine List.map_congr_left fun n hn => ?_
    have : a ∉ l := (List.nodup_cons.1 hl).1
    rw [if_neg]
    intro h; subst h; exact this hn
   ·have hd' : d ∈ l := by
     rcases List.mem_cons.1 hd with h | h
     ·exact absurd h.symm e
     ·exact h
    rw [List.idxOf_cons]
    simp only [cond_false, beq_eq_false_iff_ne.2 e, List.map_cons, List.set_cons_succ, if_neg e]
    rw [ih hd' (List.nodup_cons.1 hl).2]
theorem zPY (l : List Int) (n : Int) (h : n ∈ l) : zJA l n = ((l.idxOf n : Nat) : Int) := by unfold zJA; rw [if_pos h]
theorem numsTo_last (R : List Issue) (k : Nat) (hk : k < R.length) (h : ∀ j, j ≤ k → zIC R j) : (∀ n ∈ zBR R (k + 1), n ≤ R[k].d) ∧ R[k].d ∈ zBR R (k + 1) ∧ (zBR R (k + 1)).Pairwise (· < ·) := by
 induction k with
 | zero =>
   rw [zIA R 0 hk (.inl rfl)]
   simp [zBR]
 | succ k ih =>
   have ih := ih (by omega) (fun j hj => h j (by omega))
   have ho := (h (k + 1) (Nat.le_refl _) hk).2 (by omega)
   simp only [Nat.add_sub_cancel] at ho
   rcases ho with ⟨h1, _⟩ | ⟨h1, _⟩
   ·rw [zIA R (k + 1) hk (.inr (by simp only [Nat.add_sub_cancel]; omega))]
    refine ⟨fun n hn => ?_, by simp, ?_⟩
    ·rcases List.mem_append.1 hn with h2 | h2
     ·have := ih.1 n h2; omega
     ·simp at h2; omega
    ·rw [List.pairwise_append]
     refine ⟨ih.2.2, by simp, fun a ha b hb => ?_⟩
     simp at hb
     have := ih.1 a ha
     omega
   ·rw [zLL R (k + 1) hk (by omega) (by simp only [Nat.add_sub_cancel]; omega)]
    rw [← h1]
    exact ih
theorem nums_sorted (R : List Issue) (h : ∀ j, j < R.length → zIC R j) : (nums R).Pairwise (· < ·) := by
 unfold nums
 cases hl : R.length with
 | zero => simp [zBR]
 | succ k => exact (numsTo_last R k (by omega) (fun j hj => h j (by omega))).2.2
theorem zNN (R : List Issue) (h : ∀ j, j < R.length → zIC R j) : (nums R).Nodup := by
 have := nums_sorted R h
 exact this.imp fun hab => by omega
theorem numsTo_mono (R : List Issue) (k m : Nat) (h : k ≤ m) (n : Int) (hn : n ∈ zBR R k) : n ∈ zBR R m := by
 induction m with
 | zero =>
   obtain rfl : k = 0 := by omega
   exact hn
 | succ m ih =>
   by_cases e : k = m + 1
   ·subst e; exact hn
   ·simp only [zBR, List.mem_append]
    exact .inl (ih (by omega))
theorem zMM (R : List Issue) (h : ∀ j, j < R.length → zIC R j) (k : Nat) (hk : k < R.length) : R[k].d ∈ nums R :=
 numsTo_mono R (k + 1) R.length (by omega) _ (numsTo_last R k hk (fun j hj => h j (by omega))).2.1
end
section
open Go.RowKit
def row (R : List Issue) (g : Int → Int) : List Value := (nums R).map (fun n => Value.int .i64 (g n))
theorem row_at (R : List Issue) (g : Int → Int) (d : Int) (hd : d ∈ nums R) : (row R g)[(nums R).idxOf d]? = some (.int .i64 (g d)) := by
 unfold row
 rw [List.getElem?_map, List.getElem?_eq_getElem (List.idxOf_lt_length_of_mem hd)]
 simp
theorem row_set (R : List Issue) (g g' : Int → Int) (d : Int) (hd : d ∈ nums R) (hn : (nums R).Nodup) (u : Int) (h : ∀ n, g' n = if n = d then u else g n) : (row R g).set ((nums R).idxOf d) (.int .i64 u) = row R g' := by
 unfold row
 rw [set_map _ _ _ _ hd hn]
 refine List.map_congr_left fun n _ => ?_
 rw [h]
 split <;> rfl
theorem row_zero (R : List Issue) (g : Int → Int) (h : ∀ n, g n = 0) (N : Nat) (hN : (nums R).length = N) : (madeCells (Value.int IntKind.i64 0).cells (N * 1)).toList = row R g := by
 rw [Nat.mul_one]
 show (madeCells #[Value.int IntKind.i64 0] N).toList = _
 rw [toList_madeCells_one, ← hN]
 unfold row
 rw [show (fun n => Value.int .i64 (g n)) = (fun _ => Value.int .i64 0) from funext fun n => by rw [h]]
 exact List.map_const'.symm
theorem depths02 (w : World) (v : Value) (R : List Issue) (h : Sl zAU 5 w v R) (hL : zEM R) :
  Calls Tryz.prog 151 #[.agg #[v]] w fun e w' => ∃ u, e = .returned u ∧ Sl zAJ 1 w' u ((nums R).map (dep R ((nums R).length + 1))) ∧ Below w.heap.size w w' := by
 obtain ⟨i0, hi, hz0, hz1, hz2⟩ := info_parts zDM
 have hR60 : R.length ≤ 60 := by have := hL.1.2; omega
 have hN20 := hL.2.2.2
 have hnd := Lib.hid (zNN R (fun j hj => (hL.2.1 j hj).2))
 have hhas := Lib.hid (zMM R (fun j hj => (hL.2.1 j hj).2))
 have hitm := Lib.hid hL.2.2.1
 clear hL
 obtain ⟨hb1, B1⟩ := zAZ w #[v] 24
 have c0 := B1 0 v rfl
 clear B1
 obtain ⟨a, cap, rfl, hm⟩ := zD h
 have h1 := zI zP hb1 h
 have C0 := Lib.hid c0
 unfold zJ at c0
 clear h
 go_enter Tryz.func151, Tryz.ntmps151
 go_wp2_with fail
 generalize w.alloc _ = w1 at *
 refine (zFK _ _ R h1 (by omega)).mono ?_
 rintro e w2 ⟨u, rfl, hu, hb2⟩
 have hb3 := zA hb1 hb2
 have h2 := zI zP hb2 h1
 have C2 := Lib.hid (zC hb2 C0.out)
 clear C0 c0 hb1 hb2 h1
 obtain ⟨au, capu, rfl, hmu⟩ := zD hu
 generalize hN : (nums R).length = N at *
 have HN := Lib.hid hN
 clear hN
 go_wp2_with (at_make; refine wpList_make_full _ rfl _ _ 28 rfl w2.heap.size 3 i0 (.int .i64 0) 1 Tryz.underlying28 hi hz0 hz1 .i64 .i64 _ _ N rfl rfl rfl rfl (by rw [hz2]; omega) (by unfold maxLen; omega) (Nat.le_refl _) ?_; intro w3 hown0 hg0)
 have hrow0 : w3.ownsRow w2.heap.size 3 1 (.slice (some ⟨w2.heap.size, 0, none⟩) N N) N (row R (dep R 0)) := by
  have e := row_zero R (dep R 0) (fun _ => rfl) N HN.out
  rw [← e]
  exact hown0
 have hb4 : Below w2.heap.size w2 w3 := (Below.refl _ w2).grown hg0 (Nat.le_refl _) (fun k e => by cases e)
 clear hown0 hg0
 go_loopw [4, 5] (fun o i wr => ∃ (r go : Nat), i = .int .i64 r ∧ r ≤ N + 1 ∧ o = .slice (some ⟨go, 0, none⟩) N N ∧ wr.ownsRow w2.heap.size 3 1 o N (row R (dep R r)) ∧ Below w2.heap.size w2 wr) (fun _ i _ => N + 1 - (intOf i).toNat)
 case atStart => exact ⟨0, w2.heap.size, rfl, by omega, rfl, hrow0, hb4⟩
 case round =>
  obtain ⟨r, go, rfl, hr, rfl, hown, hb⟩ := hrel
  clear hrow0 hb4
  by_cases hrn : r ≤ N
  ·go_wp2_with (at_make; refine wpList_make_full _ rfl _ _ 28 rfl w2.heap.size 3 i0 (.int .i64 0) 1 Tryz.underlying28 hi hz0 hz1 .i64 .i64 _ _ N rfl rfl rfl rfl (by rw [hz2]; omega) (by unfold maxLen; omega) hb.size ?_; intro w4 hown1 hg1)
   have hne : go ≠ wr.heap.size := by have := (hown.lt go rfl).2; omega
   have hgb : w2.heap.size ≤ wr.heap.size := hb.size
   have hb5 : Below w2.heap.size w2 w4 := hb.grown hg1 hb.size (fun k e => by cases e)
   have hown2 := hown.kept hg1 (.inr (by simp [Value.ownBlock]))
   have hrow1 : w4.ownsRow w2.heap.size 3 1 (.slice (some ⟨wr.heap.size, 0, none⟩) N N) N (row R (zDU R (dep R r) 0)) := by
    rw [← row_zero R (zDU R (dep R r) 0) (fun _ => rfl) N HN.out]
    exact hown1
   clear hown1 hg1 hown hb
   generalize wr.heap.size = g at *
   go_loopw [7] (fun i wm => ∃ k : Nat, i = .int .i64 k ∧ k ≤ R.length ∧ wm.ownsRow w2.heap.size 3 1 (.slice (some ⟨go, 0, none⟩) N N) N (row R (dep R r)) ∧ wm.ownsRow w2.heap.size 3 1 (.slice (some ⟨g, 0, none⟩) N N) N (row R (zDU R (dep R r) k)) ∧ Below w2.heap.size w2 wm) (fun i _ => R.length - (intOf i).toNat)
   case atStart => exact ⟨0, rfl, by omega, hown2, hrow1, hb5⟩
   case round =>
    obtain ⟨k, rfl, hk, ho, hn, hb⟩ := hrel
    clear hown2 hrow1 hb5
    have e0 := zC hb C2.out
    unfold zJ at e0
    by_cases hlt : k < R.length
    ·obtain ⟨b, off, rfl, ⟨q0, q1, q2⟩, hnum, vi, vd, q3, q4, si, sd⟩ := (zZ h2).2 k hlt
     have q0 := zC hb q0
     have q1 := zC hb q1
     have q2 := zC hb q2
     have q3 := zC hb q3
     have q4 := zC hb q4
     have hd := hhas.out k hlt
     have hit := Lib.hid (fun j hj => hitm.out k hlt hlt j hj)
     have hsucc := Lib.hid (zOB R (dep R r) k hlt)
     unfold zJ at q0 q1 q2 q3 q4
     generalize hx : R[k] = x at *
     clear hx
     obtain ⟨ai, capi, rfl, hmi⟩ := zD si
     obtain ⟨ad, capd, rfl, _⟩ := zD sd
     have x3 := zU wr #[.int .i64 x.d, .int .i64 x.l, .int .u8 x.k, .slice ai x.items.length capi, .slice ad x.dims.length capd] 107 3 (.slice ai x.items.length capi) rfl
     have hb6 := hb.alloc hb.size (.cells #[.int .i64 x.d, .int .i64 x.l, .int .u8 x.k, .slice ai x.items.length capi, .slice ad x.dims.length capd] 107)
     have ho2 := ho.alloc (.cells #[.int .i64 x.d, .int .i64 x.l, .int .u8 x.k, .slice ai x.items.length capi, .slice ad x.dims.length capd] 107)
     have hn2 := hn.alloc (.cells #[.int .i64 x.d, .int .i64 x.l, .int .u8 x.k, .slice ai x.items.length capi, .slice ad x.dims.length capd] 107)
     have e1 := zC hb6 C2.out
     have xlt := zAF x3
     have glt := (hn.lt g rfl).2
     unfold zJ at e1
     go_wp2_with fail
     clear e0 q0 q1 q2 q3 q4 ho hn
     have hxb : w2.heap.size ≤ wr.heap.size := hb.size
     clear sd hb
     generalize wr.alloc _ = w5 at *
     generalize wr.heap.size = xb at *
     refine (zLY _ _ _ x.d (zI zN hb6 hu)).mono ?_
     rintro e w6 ⟨rfl, rfl⟩
     rw [zPY _ _ hd]
     have hat : (nums R).idxOf x.d < N := by rw [← HN.out]; exact List.idxOf_lt_length_of_mem hd
     have ga := hn2.cells (g := g) rfl _ _ (row_at R (zDU R (dep R r) k) x.d hd)
     rw [zBP] at ga
     have fa := hn2.frozenAt ((nums R).idxOf x.d)
     have hbd := zPP R (dep R r) r (by omega) (zJP R r) k x.d
     have hset := Lib.hid (fun u h => row_set R (zDU R (dep R r) k) (mid R (dep R r) k x 0) x.d hd hnd.out u h)
     generalize hatn : (nums R).idxOf x.d = at0 at *
     have HAT := Lib.hid hatn
     clear hatn
     generalize hacc : zDU R (dep R r) k x.d = acc at *
     have HACC := Lib.hid hacc
     clear hacc
     by_cases h1 : 1 ≤ acc
     case' pos =>
      have h1' : ¬ (1 > acc) := by omega
      go_wp2
      obtain ⟨hn3, hgr⟩ := hn2.stored at0 (.int .i64 acc)
      rw [hset.out acc (fun n => by rw [mid_zero, HACC.out, Int.max_eq_left h1])] at hn3
      have x7 := zBE (j := at0) (u := Value.int .i64 acc) x3 (by omega : xb ≠ g)
     case' neg =>
      have h1' : 1 > acc := by omega
      go_wp2
      obtain ⟨hn3, hgr⟩ := hn2.stored at0 (.int .i64 1)
      rw [hset.out 1 (fun n => by rw [mid_zero, HACC.out, Int.max_eq_right (by omega)])] at hn3
      have x7 := zBE (j := at0) (u := Value.int .i64 1) x3 (by omega : xb ≠ g)
     all_goals
      have ho3 := ho2.kept hgr (.inr (by simp [Value.ownBlock]; omega))
      have hb7 := hb6.grown hgr hb6.size (fun k e => by cases e; exact (hn2.lt g rfl).1)
      clear h1 h1' hgr ho2 hn2 hb6 x3 ga fa hset
      generalize w5.setCell _ _ = w7 at *
      go_loopw [10] (fun i wi => ∃ m : Nat, i = .int .i64 m ∧ m ≤ x.items.length ∧ wi.ownsRow w2.heap.size 3 1 (.slice (some ⟨go, 0, none⟩) N N) N (row R (dep R r)) ∧ wi.ownsRow w2.heap.size 3 1 (.slice (some ⟨g, 0, none⟩) N N) N (row R (mid R (dep R r) k x m)) ∧ Below w2.heap.size w2 wi ∧ zJ wi xb 3 (.slice ai x.items.length capi)) (fun i _ => x.items.length - (intOf i).toNat)
      case atStart => exact ⟨0, rfl, by omega, ho3, hn3, hb7, x7⟩
      case round =>
       obtain ⟨m, rfl, hmi2, ho, hn, hb, hx3⟩ := hrel
       clear ho3 hn3 hb7 x7
       unfold zJ at hx3
       by_cases hlm : m < x.items.length
       ·obtain ⟨b', off', rfl, ⟨p0, _⟩, _⟩ := (zZ si).2 m hlm
        have p0 := zC hb p0
        unfold zJ at p0
        have hyd := hit.out m hlm
        have hsucc2 := Lib.hid (mid_succ R (dep R r) k x m hlm)
        generalize hy : x.items[m] = y at *
        clear hy
        have hmem : y.d ∈ nums R := hyd
        have hcall := fun W (hW : Below w2.heap.size w2 W) => (zLY W _ _ y.d (zI zN hW hu)).mono (fun e w' (h : e = .returned (.int .i64 (zJA (nums R) y.d)) ∧ W = w') => (show e = .returned (.int .i64 (((nums R).idxOf y.d : Nat) : Int)) ∧ w' = W from ⟨by rw [h.1, zPY _ _ hmem], h.2.symm⟩))
        have hat1 : (nums R).idxOf y.d < N := by rw [← HN.out]; exact List.idxOf_lt_length_of_mem hmem
        have ga := hn.cells (g := g) rfl _ _ (row_at R (mid R (dep R r) k x m) x.d hd)
        have gb := ho.cells (g := go) rfl _ _ (row_at R (dep R r) y.d hmem)
        rw [zBP] at ga gb
        rw [HAT.out] at ga
        have fa := hn.frozenAt at0
        have hbd1 := mid_bd R r k x m x.d
        have hbd2 := zJP R r y.d
        have hset := Lib.hid (fun u h => row_set R (mid R (dep R r) k x m) (mid R (dep R r) k x (m + 1)) x.d hd hnd.out u h)
        generalize (nums R).idxOf y.d = at1 at *
        generalize hmv : mid R (dep R r) k x m x.d = mv at *
        generalize hdv : dep R r y.d = dv at *
        have HMV := Lib.hid hmv
        have HDV := Lib.hid hdv
        clear hmv hdv hyd
        have hcW := hcall wr.drew (hb.drew)
        clear hcall
        have HC := Lib.hid hcW
        clear hcW
        by_cases h1 : 1 + dv ≤ mv
        case' pos =>
         have h1' : ¬ (1 + dv > mv) := by omega
         go_wp2
         go_still_tail 20, (by kernel_rfl)
         still_call HC.out
         repeat still_step
         refine wpStill_nil ?_
         go_wp2
         obtain ⟨hn3, hgr⟩ := hn.drew.stored at0 (.int .i64 mv)
         rw [← HAT.out, hset.out mv (fun n => by rw [hsucc2.out, Int.max_eq_left h1]), HAT.out] at hn3
         go_roundw
         case rel => exact ⟨m + 1, by go_num, by omega, ho.drew.kept hgr (.inr (by simp [Value.ownBlock]; omega)), hn3, hb.drew.grown hgr (by have := hb.size; simpa using this) (fun k e => by cases e; exact (hn.lt g rfl).1), zBE (w := wr.drew) hx3 (by omega)⟩
         case measure => simp [intOf]; omega
        case' neg =>
         have h1' : 1 + dv > mv := by omega
         go_wp2
         go_still_tail 20, (by kernel_rfl)
         still_call HC.out
         repeat still_step
         refine wpStill_nil ?_
         go_wp2
         obtain ⟨hn3, hgr⟩ := hn.drew.stored at0 (.int .i64 (1 + dv))
         rw [← HAT.out, hset.out (1 + dv) (fun n => by rw [hsucc2.out, Int.max_eq_right (by omega)]), HAT.out] at hn3
         go_roundw
         case rel => exact ⟨m + 1, by go_num, by omega, ho.drew.kept hgr (.inr (by simp [Value.ownBlock]; omega)), hn3, hb.drew.grown hgr (by have := hb.size; simpa using this) (fun k e => by cases e; exact (hn.lt g rfl).1), zBE (w := wr.drew) hx3 (by omega)⟩
         case measure => simp [intOf]; omega
       ·go_wp2
        go_roundw
        case rel => exact ⟨k + 1, by go_num, by omega, ho, by rw [show m = x.items.length by omega] at hn; rw [show zDU R (dep R r) (k + 1) = mid R (dep R r) k x x.items.length from funext hsucc.out]; exact hn, hb⟩
        case measure => simp [intOf]; omega
    ·go_wp2
     go_roundw
     case rel => exact ⟨r + 1, g, by go_num, by omega, rfl, by rw [show k = R.length by omega] at hn; exact hn, hb⟩
     case measure => simp [intOf]; omega
  ·go_wp2
   go_ret
   obtain rfl : r = N + 1 := by omega
   refine ⟨_, rfl, ?_, zA hb3 hb⟩
   rw [HN.out]
   refine zBG (by simpa [row, HN.out, Function.comp_def] using hown) (fun x hx => ?_)
   obtain ⟨n, _, rfl⟩ := List.mem_map.1 hx
   have := zJP R (N + 1) n
   unfold I64
   omega
end
section
open Go.RowKit
def New {α : Type} (E : World → Nat → Nat → α → Prop) (sz : Nat) (e : TypeId) (base : Nat) (w : World) (v : Value) (xs : List α) : Prop :=
 Sl E sz w v xs ∧ ∃ cs, w.ownsRow base e sz v xs.length cs
def zKY {α : Type} (E : World → Nat → Nat → α → Prop) (sz : Nat) : Prop :=
 ∀ w w' b o b' o' x, Below w.heap.size w w' → (∀ j u, j < sz → zJ w b (o + j) u → zJ w' b' (o' + j) u) → E w b o x → E w' b' o' x
def zFD {α : Type} (E : World → Nat → Nat → α → Prop) (sz : Nat) : Prop :=
 ∀ w b o x, E w b o x → ∀ j, j < sz → ∃ u, zJ w b (o + j) u ∧ u.oneCell' = true
theorem copies_int : zKY zAJ 1 := fun w w' b o b' o' x _ hc ⟨h, hr⟩ => ⟨hc 0 _ (by omega) h, hr⟩
theorem copies_item : zKY zCP 2 := fun w w' b o b' o' x _ hc ⟨⟨h0, h1⟩, hr⟩ => ⟨⟨hc 0 _ (by omega) h0, hc 1 _ (by omega) h1⟩, hr⟩
theorem copies_dim : zKY zGQ 3 := fun w w' b o b' o' x _ hc ⟨⟨h0, h1, h2⟩, hr⟩ => ⟨⟨hc 0 _ (by omega) h0, hc 1 _ (by omega) h1, hc 2 _ (by omega) h2⟩, hr⟩
theorem copies_note : zKY zBM 10 := fun w w' b o b' o' x _ hc ⟨⟨h0, h1, h2, h3, h4, h5, h6, h7, h8, h9⟩, hr⟩ =>
 ⟨⟨hc 0 _ (by omega) h0, hc 1 _ (by omega) h1, hc 2 _ (by omega) h2, hc 3 _ (by omega) h3, hc 4 _ (by omega) h4, hc 5 _ (by omega) h5, hc 6 _ (by omega) h6, hc 7 _ (by omega) h7, hc 8 _ (by omega) h8, hc 9 _ (by omega) h9⟩, hr⟩
theorem copies_heap : zKY zHA 4 := fun w w' b o b' o' x _ hc ⟨⟨h0, h1, h2, h3⟩, hr⟩ => ⟨⟨hc 0 _ (by omega) h0, hc 1 _ (by omega) h1, hc 2 _ (by omega) h2, hc 3 _ (by omega) h3⟩, hr⟩
theorem copies_report : zKY zDD 5 := fun w w' b o b' o' x _ hc ⟨⟨h0, h1, h2, h3, h4⟩, hr⟩ => ⟨⟨hc 0 _ (by omega) h0, hc 1 _ (by omega) h1, hc 2 _ (by omega) h2, hc 3 _ (by omega) h3, hc 4 _ (by omega) h4⟩, hr⟩
theorem cells_int : zFD zAJ 1 := fun w b o x h j hj => by
 obtain rfl : j = 0 := by omega
 exact ⟨_, h.1, rfl⟩
theorem cells_item : zFD zCP 2 := fun w b o x ⟨⟨h0, h1⟩, _⟩ j hj => by
 match j, hj with
 | 0, _ => exact ⟨_, h0, rfl⟩
 | 1, _ => exact ⟨_, h1, rfl⟩
theorem cells_dim : zFD zGQ 3 := fun w b o x ⟨⟨h0, h1, h2⟩, _⟩ j hj => by
 match j, hj with
 | 0, _ => exact ⟨_, h0, rfl⟩
 | 1, _ => exact ⟨_, h1, rfl⟩
 | 2, _ => exact ⟨_, h2, rfl⟩
theorem cells_note : zFD zBM 10 := fun w b o x ⟨⟨h0, h1, h2, h3, h4, h5, h6, h7, h8, h9⟩, _⟩ j hj => by
 match j, hj with
 | 0, _ => exact ⟨_, h0, rfl⟩
 | 1, _ => exact ⟨_, h1, rfl⟩
 | 2, _ => exact ⟨_, h2, rfl⟩
 | 3, _ => exact ⟨_, h3, rfl⟩
 | 4, _ => exact ⟨_, h4, rfl⟩
 | 5, _ => exact ⟨_, h5, rfl⟩
 | 6, _ => exact ⟨_, h6, rfl⟩
 | 7, _ => exact ⟨_, h7, rfl⟩
 | 8, _ => exact ⟨_, h8, rfl⟩
 | 9, _ => exact ⟨_, h9, rfl⟩
theorem cells_heap : zFD zHA 4 := fun w b o x ⟨⟨h0, h1, h2, h3⟩, _⟩ j hj => by
 match j, hj with
 | 0, _ => exact ⟨_, h0, rfl⟩
 | 1, _ => exact ⟨_, h1, rfl⟩
 | 2, _ => exact ⟨_, h2, rfl⟩
 | 3, _ => exact ⟨_, h3, rfl⟩
theorem cells_report : zFD zDD 5 := fun w b o x ⟨⟨h0, h1, h2, h3, h4⟩, _⟩ j hj => by
 match j, hj with
 | 0, _ => exact ⟨_, h0, rfl⟩
 | 1, _ => exact ⟨_, h1, rfl⟩
 | 2, _ => exact ⟨_, h2, rfl⟩
 | 3, _ => exact ⟨_, h3, rfl⟩
 | 4, _ => exact ⟨_, h4, rfl⟩
theorem zNE {α : Type} {E : World → Nat → Nat → α → Prop} {sz : Nat} (hE : zFD E sz) {w : World} {b off : Nat} (xs : List α) (h : ∀ k (hk : k < xs.length), E w b (off + k * sz) xs[k]) :
  ∃ news : List Value, news.length = xs.length * sz ∧ (∀ j u, news[j]? = some u → zJ w b (off + j) u) ∧ (∀ u ∈ news, u.oneCell' = true) := by
 have key : ∀ j, j < xs.length * sz → ∃ u, zJ w b (off + j) u ∧ u.oneCell' = true := fun j hj => by
  have hsz : 0 < sz := Nat.pos_of_ne_zero fun e => by subst e; simp at hj
  have hk : j / sz < xs.length := (Nat.div_lt_iff_lt_mul hsz).2 hj
  obtain ⟨u, hu, h1⟩ := hE _ _ _ _ (h (j / sz) hk) (j % sz) (Nat.mod_lt _ hsz)
  have e := Nat.div_add_mod' j sz
  exact ⟨u, by rw [show off + j = off + j / sz * sz + j % sz by omega]; exact hu, h1⟩
 refine ⟨(List.range (xs.length * sz)).map (fun j => (w.cell? ⟨b, off + j, none⟩).getD (.bool false)), by simp, fun j u hj => ?_, fun u hu => ?_⟩
 ·rw [List.getElem?_map] at hj
  by_cases hl : j < xs.length * sz
  ·obtain ⟨u', hu', _⟩ := key j hl
   rw [List.getElem?_range hl] at hj
   unfold zJ at hu' ⊢
   simp [hu'] at hj
   rw [← hj]
   exact hu'
  ·rw [List.getElem?_eq_none (by simpa using hl)] at hj
   simp at hj
 ·obtain ⟨j, hj, rfl⟩ := List.mem_map.1 hu
  obtain ⟨u', hu', h1⟩ := key j (List.mem_range.1 hj)
  unfold zJ at hu'
  rw [hu']
  exact h1
theorem zIF {α : Type} {E : World → Nat → Nat → α → Prop} {sz : Nat} (hC : zKY E sz) {w w' : World} (hb : Below w.heap.size w w') {b off : Nat} {xs : List α}
  (h : ∀ k (hk : k < xs.length), E w b (off + k * sz) xs[k]) {news : List Value} (hl : news.length = xs.length * sz) (hn : ∀ j u, news[j]? = some u → zJ w b (off + j) u)
  {base : Nat} {e : TypeId} {v : Value} (hown : w'.ownsRow base e sz v xs.length news) : Sl E sz w' v xs := by
 have hown' := hown
 obtain ⟨_, h2⟩ := hown
 rcases h2 with ⟨rfl, hn0⟩ | ⟨g, cap, cur, rfl, _, _, hc, hcm, _⟩
 ·exact ⟨none, 0, by rw [hn0], by omega, fun k hk => by omega⟩
 ·refine ⟨some ⟨g, 0, none⟩, cap, rfl, by unfold maxLen at hcm; omega, fun k hk => ⟨g, 0, rfl, ?_⟩⟩
  refine hC w w' b (off + k * sz) g (0 + k * sz) _ hb (fun j u hj hu => ?_) (h k hk)
  have hlt : k * sz + j < news.length := by
   rw [hl]
   exact Nat.lt_of_lt_of_le (show k * sz + j < (k + 1) * sz by rw [Nat.add_mul, Nat.one_mul]; omega) (Nat.mul_le_mul_right _ hk)
  have e1 : news[k * sz + j]? = some news[k * sz + j] := List.getElem?_eq_getElem hlt
  have c1 := hn _ _ e1
  have c2 := hown'.cells (g := g) rfl _ _ e1
  rw [zBP] at c2
  unfold zJ at *
  rw [Nat.zero_add, c2, ← c1, ← hu, Nat.add_assoc]
theorem New.sl {α : Type} {E : World → Nat → Nat → α → Prop} {sz : Nat} {e : TypeId} {base : Nat} {w : World} {v : Value} {xs : List α} (h : New E sz e base w v xs) : Sl E sz w v xs := h.1
theorem New.nil {α : Type} (E : World → Nat → Nat → α → Prop) (sz : Nat) (e : TypeId) (base : Nat) (w : World) : New E sz e base w (.slice none 0 0) ([] : List α) :=
 ⟨⟨none, 0, rfl, by simp, fun k hk => by simp at hk⟩, [], World.ownsRow_nil _ _ _ _⟩
theorem New.weak {α : Type} {E : World → Nat → Nat → α → Prop} {sz : Nat} {e : TypeId} {base base' : Nat} {w : World} {v : Value} {xs : List α} (h : New E sz e base w v xs) (hb : base' ≤ base) : New E sz e base' w v xs := by
 obtain ⟨h1, cs, hl, h2⟩ := h
 refine ⟨h1, cs, hl, ?_⟩
 rcases h2 with h2 | ⟨g, cap, cur, hv, hg, h3⟩
 ·exact .inl h2
 ·exact .inr ⟨g, cap, cur, hv, by omega, h3⟩
theorem zAA {w w' : World} {base : Nat} {e : TypeId} {sz : Nat} {v : Value} {n : Nat} {cs : List Value} (hb : Below w.heap.size w w') (h : w.ownsRow base e sz v n cs) : w'.ownsRow base e sz v n cs := by
 obtain ⟨hl, h2⟩ := h
 refine ⟨hl, ?_⟩
 rcases h2 with h2 | ⟨g, cap, cur, hv, hg, hc, h3⟩
 ·exact .inl h2
 ·exact .inr ⟨g, cap, cur, hv, hg, (hb.block g (Array.getElem?_eq_some_iff.1 hc).1).trans hc, h3⟩
theorem New.ext {α : Type} {E : World → Nat → Nat → α → Prop} {sz : Nat} {e : TypeId} {base : Nat} {w w' : World} {v : Value} {xs : List α} (hs : zHU E) (hb : Below w.heap.size w w') (h : New E sz e base w v xs) : New E sz e base w' v xs := by
 obtain ⟨h1, cs, h2⟩ := h
 exact ⟨zI hs hb h1, cs, zAA hb h2⟩
end
end Go.Proofs.YtpolpdegpbahiaaGreatDoor
namespace Go
open Go.RowKit
def zY (vs : Nat → Value) : List Oper → Nat → Act → Act
 | [], _, a => a
 | o :: l, k, a => zY vs l (k + 1) (a.put o.dst (vs k))
def zHX (d : Option Tmp) : List Oper → Bool
 | [] => true
 | o :: l => (match d with | none => true | some t => !(o.dst == some t)) && zHX d l
def zDX : List Oper → Bool
 | [] => true
 | o :: l => zHX o.dst l && zDX l
theorem act_put_put (a : Act) (d : Option Tmp) (v u : Value) : (a.put d v).put d u = a.put d u := by
 cases d with
 | none => rfl
 | some d =>
   have e : (a.tmps.setIfInBounds d v).setIfInBounds d u = a.tmps.setIfInBounds d u := by
    apply Array.ext_getElem?
    intro i
    by_cases h : d = i
    ·subst h; simp
    ·simp [h]
   simp only [Act.put, e]
theorem act_put_self (a : Act) (d : Option Tmp) : ∃ v, a.put d v = a := by
 cases d with
 | none => exact ⟨.bool false, rfl⟩
 | some d =>
   refine ⟨a.tmps.getD d undef, ?_⟩
   obtain ⟨ts, df⟩ := a
   have e : ts.setIfInBounds d (ts.getD d undef) = ts := by
    apply Array.ext_getElem?
    intro i
    by_cases h : d = i
    ·subst h
     by_cases hl : d < ts.size
     ·simp [hl]
     ·simp [hl]
    ·simp [h]
   simp only [Act.put, e]
theorem puts_comm (vs : Nat → Value) (d : Option Tmp) (v : Value) : ∀ (l : List Oper) (k : Nat) (a : Act), zHX d l = true → (zY vs l k a).put d v = zY vs l k (a.put d v) := by
 intro l
 induction l with
 | nil => intro k a _; rfl
 | cons o l ih =>
   intro k a h
   simp only [zHX, Bool.and_eq_true] at h
   simp only [zY]
   rw [ih _ _ h.2]
   congr 1
   refine Act.put_comm a _ _ fun t ht => ?_
   intro hd
   subst hd
   simp [ht] at h
theorem zDO (vs us : Nat → Value) : ∀ (l : List Oper) (k : Nat) (a : Act), (∀ j, k ≤ j → vs j = us j) → zY vs l k a = zY us l k a := by
 intro l
 induction l with
 | nil => intro k a _; rfl
 | cons o l ih =>
   intro k a h
   simp only [zY]
   rw [h k (Nat.le_refl _), ih _ _ fun j hj => h j (by omega)]
theorem zJY (vs : Nat → Value) (v : Value) : ∀ (l : List Oper) (k i : Nat) (a : Act) (o : Oper), zDX l = true → l[i]? = some o →
  (zY vs l k a).put o.dst v = zY (fun j => if j = k + i then v else vs j) l k a := by
 intro l
 induction l with
 | nil => intro k i a o _ h; simp at h
 | cons o' l ih =>
   intro k i a o hd h
   simp only [zDX, Bool.and_eq_true] at hd
   cases i with
   | zero =>
     simp only [List.getElem?_cons_zero, Option.some.injEq] at h
     subst h
     simp only [zY, Nat.add_zero, if_true]
     rw [puts_comm _ _ _ _ _ _ hd.1, act_put_put]
     exact zDO _ _ _ _ _ fun j hj => by rw [if_neg (by omega)]
   | succ i =>
     simp only [List.getElem?_cons_succ] at h
     simp only [zY]
     rw [ih (k + 1) i _ o hd.2 h, if_neg (by omega)]
     exact zDO _ _ _ _ _ fun j hj => by rw [show k + 1 + i = k + (i + 1) by omega]
theorem zMA : ∀ (l : List Oper) (k : Nat) (a : Act), ∃ vs, zY vs l k a = a := by
 intro l
 induction l with
 | nil => intro k a; exact ⟨fun _ => .bool false, rfl⟩
 | cons o l ih =>
   intro k a
   obtain ⟨v, hv⟩ := act_put_self a o.dst
   obtain ⟨vs, hvs⟩ := ih (k + 1) a
   refine ⟨fun j => if j = k then v else vs j, ?_⟩
   simp only [zY, if_true, hv]
   rw [← hvs]
   rw [hvs]
   rw [zDO _ vs l (k + 1) a fun j hj => by rw [if_neg (by omega)]]
   exact hvs
def Oper.waitsOn (o : Oper) : List Nat := (o.after.toList.filter (Region.binds .any)).map (·.on)
def noDups : List Nat → List Nat
 | [] => []
 | x :: l => if (noDups l).contains x then noDups l else x :: noDups l
theorem mem_noDups {x : Nat} : ∀ {l : List Nat}, x ∈ noDups l → x ∈ l := by
 intro l
 induction l with
 | nil => intro h; exact h
 | cons y l ih =>
   intro h
   simp only [noDups] at h
   split at h
   ·exact List.mem_cons_of_mem _ (ih h)
   ·rcases List.mem_cons.1 h with h | h
    ·exact h ▸ List.mem_cons_self
    ·exact List.mem_cons_of_mem _ (ih h)
def zIS (ops : List Oper) : Nat → List Nat → List Nat
 | 0, S => S
 | f + 1, S => zIS ops f (noDups (S ++ S.flatMap fun k => match ops[k]? with | none => [] | some o => o.waitsOn))
def zHZ (ops : List Oper) (m : Nat) : Bool :=
 zDX (ops.take m) && decide (m ≤ ops.length) &&
 (List.range ops.length).all (fun i => match ops[i]? with | none => true | some o => o.waitsOn.all (· < i)) &&
 (List.range ops.length).all (fun k => decide (k < m) || (List.range k).all (fun j => (zIS ops 12 ((ops[k]?).elim [] Oper.waitsOn)).contains j))
def zDQ (ops : List Oper) (L : Array Bool) : Prop := ∀ i o, L.getD i false = true → ops[i]? = some o → ∀ j ∈ o.waitsOn, L.getD j false = true
theorem zBV {ops : List Oper} {L : Array Bool} (hd : zDQ ops L) : ∀ (f : Nat) (S : List Nat), (∀ j ∈ S, L.getD j false = true) → ∀ j ∈ zIS ops f S, L.getD j false = true := by
 intro f
 induction f with
 | zero => intro S h j hj; exact h j hj
 | succ f ih =>
   intro S h j hj
   refine ih _ (fun i hi => ?_) j hj
   rcases List.mem_append.1 (mem_noDups hi) with h1 | h1
   ·exact h i h1
   ·obtain ⟨k, hk, hik⟩ := List.mem_flatMap.1 h1
    cases hok : ops[k]? with
    | none => simp [hok] at hik
    | some o =>
      simp only [hok] at hik
      exact hd k o (h k hk) hok i hik
theorem mem_waitsOn {o : Oper} {j : Nat} : j ∈ o.waitsOn ↔ ∃ e ∈ o.after, Region.binds .any e = true ∧ e.on = j := by
 unfold Oper.waitsOn
 simp only [List.mem_map, List.mem_filter, Array.mem_toList_iff]
 constructor
 ·rintro ⟨e, ⟨h1, h2⟩, h3⟩; exact ⟨e, h1, h2, h3⟩
 ·rintro ⟨e, h1, h2, h3⟩; exact ⟨e, ⟨h1, h2⟩, h3⟩
theorem zCO {ops : List Oper} {L : Array Bool} {k : Nat} : k ∈ Region.ready .any ops.toArray L ↔ L.getD k true = false ∧ ∃ o, ops[k]? = some o ∧ ∀ j ∈ o.waitsOn, L.getD j false = true := by
 rw [mem_ready]
 simp only [List.getElem?_toArray]
 constructor
 ·rintro ⟨h0, o, ho, h⟩
  exact ⟨h0, o, ho, fun j hj => by obtain ⟨e, he, hb, rfl⟩ := mem_waitsOn.1 hj; exact h e he hb⟩
 ·rintro ⟨h0, o, ho, h⟩
  exact ⟨h0, o, ho, fun e he hb => h _ (mem_waitsOn.2 ⟨e, he, hb, rfl⟩)⟩
def unTo (L : Array Bool) : Nat → Nat
 | 0 => 0
 | k + 1 => unTo L k + (if L.getD k true then 0 else 1)
theorem unTo_le (L : Array Bool) (i : Nat) (k : Nat) : unTo (L.setIfInBounds i true) k ≤ unTo L k := by
 induction k with
 | zero => simp [unTo]
 | succ k ih =>
   simp only [unTo]
   by_cases h : i = k
   ·subst h
    have : (L.setIfInBounds i true).getD i true = true := by
     simp only [Array.getD_eq_getD_getElem?, Array.getElem?_setIfInBounds]
     by_cases hl : i < L.size <;> simp [hl]
    rw [this]
    simp
    omega
   ·rw [getD_set_ne true h]
    omega
theorem zIR (L : Array Bool) (i : Nat) (hi : L.getD i true = false) (k : Nat) (hk : i < k) : unTo (L.setIfInBounds i true) k + 1 ≤ unTo L k := by
 induction k with
 | zero => omega
 | succ k ih =>
   simp only [unTo]
   by_cases h : i = k
   ·subst h
    have : (L.setIfInBounds i true).getD i true = true := by
     simp only [Array.getD_eq_getD_getElem?, Array.getElem?_setIfInBounds]
     by_cases hl : i < L.size <;> simp [hl]
    rw [this, hi]
    have := unTo_le L i i
    simp
    omega
   ·rw [getD_set_ne true h]
    have := ih (by omega)
    omega
theorem zGP (L : Array Bool) (k : Nat) (h : unTo L k = 0) : ∀ i, i < k → L.getD i true = true := by
 induction k with
 | zero => intro i hi; omega
 | succ k ih =>
   simp only [unTo] at h
   intro i hi
   by_cases e : i = k
   ·subst e
    by_cases hh : L.getD i true = true
    ·exact hh
    ·simp [hh] at h
   ·exact ih (by omega) i (by omega)
theorem zKE (n k : Nat) : unTo (Array.replicate n false) k ≤ k := by
 induction k with
 | zero => simp [unTo]
 | succ k ih => simp only [unTo]; split <;> omega
theorem zEA (n i : Nat) : (Array.replicate n false).getD i false = false := by
 simp only [Array.getD_eq_getD_getElem?, Array.getElem?_replicate]
 split <;> rfl
theorem zEL {L : Array Bool} {i : Nat} (h : L.getD i false = true) : L.getD i true = true := by
 simp only [Array.getD_eq_getD_getElem?] at *
 cases hh : L[i]? <;> simp_all
theorem zCI {L : Array Bool} {i : Nat} (hi : i < L.size) (h : L.getD i true = true) : L.getD i false = true := by
 simp only [Array.getD_eq_getD_getElem?] at *
 simp_all
section
variable {P : Program} {Q : Exit → Act → World → Prop} {ops : List Oper} {m : Nat}
theorem zDZ (hB : zHZ ops m = true) {i : Nat} {o : Oper} (ho : ops[i]? = some o) : ∀ j ∈ o.waitsOn, j < i := by
 simp only [zHZ, Bool.and_eq_true] at hB
 have h := List.all_eq_true.1 hB.1.2 i (List.mem_range.2 (List.getElem?_eq_some_iff.1 ho).1)
 simp only [ho] at h
 intro j hj
 simpa using List.all_eq_true.1 h j hj
theorem zEX (hB : zHZ ops m = true) {k : Nat} (hk : k < ops.length) (hm : m ≤ k) : ∀ j, j < k → j ∈ zIS ops 12 ((ops[k]?).elim [] Oper.waitsOn) := by
 simp only [zHZ, Bool.and_eq_true] at hB
 have h := List.all_eq_true.1 hB.2 k (List.mem_range.2 hk)
 simp only [Bool.or_eq_true, decide_eq_true_eq] at h
 rcases h with h | h
 ·omega
 ·intro j hj
  simpa using List.all_eq_true.1 h j (List.mem_range.2 hj)
theorem zGJ (hB : zHZ ops m = true) : zDX (ops.take m) = true := by
 simp only [zHZ, Bool.and_eq_true] at hB
 exact hB.1.1.1
theorem zPU (hB : zHZ ops m = true) : m ≤ ops.length := by
 simp only [zHZ, Bool.and_eq_true, decide_eq_true_eq] at hB
 exact hB.1.1.2
theorem zCB {L : Array Bool} {i : Nat} {o : Oper} (hd : zDQ ops L) (ho : ops[i]? = some o) (hw : ∀ j ∈ o.waitsOn, L.getD j false = true) : zDQ ops (L.setIfInBounds i true) := by
 intro k ok hk hok j hj
 by_cases e : i = k
 ·subst e
  rw [ho] at hok
  cases hok
  exact getD_set_true (hw j hj)
 ·rw [getD_set_ne false e] at hk
  exact getD_set_true (hd k ok hk hok j hj)
theorem zEU (hB : zHZ ops m = true) {L : Array Bool} (hL : L.size = ops.length) (h : Region.ready .any ops.toArray L = []) : ∀ i, i < ops.length → L.getD i true = true := by
 intro i
 induction i using Nat.strongRecOn with
 | _ i ih =>
   intro hi
   by_cases hh : L.getD i true = true
   ·exact hh
   ·exfalso
    have ho : ops[i]? = some ops[i] := List.getElem?_eq_getElem hi
    have : i ∈ Region.ready .any ops.toArray L := zCO.2 ⟨by simpa using hh, _, ho, fun j hj => by
     have hji := zDZ hB ho j hj
     exact zCI (by omega) (ih j hji (by omega))⟩
    rw [h] at this
    cases this
theorem zGW (hB : zHZ ops m = true) : ∀ (fuel : Nat) (L : Array Bool) (t : Nat) (a : Act) (w : World), L.size = ops.length → m ≤ t → (∀ i, i < ops.length → L.getD i true = decide (i < t)) → unTo L ops.length ≤ fuel →
  wpList P ops.toArray Q (ops.drop t) a w → wpAny P .any ops.toArray Q fuel L a w := by
 intro fuel
 induction fuel with
 | zero =>
   intro L t a w hs hm hl hu h
   have hall := zGP L ops.length (by omega)
   have ht : ops.length ≤ t := by
    by_cases e : ops.length ≤ t
    ·exact e
    ·have h1 := hall t (by omega)
     rw [hl t (by omega)] at h1
     simp at h1
   refine ⟨?_, ?_⟩
   ·apply List.eq_nil_iff_forall_not_mem.2
    intro k hk
    obtain ⟨h0, o, ho, _⟩ := zCO.1 hk
    rw [hall k (List.getElem?_eq_some_iff.1 ho).1] at h0
    cases h0
   ·rw [List.drop_eq_nil_of_le ht] at h
    exact h
 | succ fuel ih =>
   intro L t a w hs hm hl hu h
   by_cases ht : ops.length ≤ t
   ·refine ⟨fun _ => by rw [List.drop_eq_nil_of_le ht] at h; exact h, fun k hk => ?_⟩
    obtain ⟨h0, o, ho, _⟩ := zCO.1 hk
    rw [hl k (List.getElem?_eq_some_iff.1 ho).1] at h0
    have := (List.getElem?_eq_some_iff.1 ho).1
    simp at h0
    omega
   ·have htl : t < ops.length := by omega
    have ho : ops[t]? = some ops[t] := List.getElem?_eq_getElem htl
    refine ⟨fun h0 => ?_, fun k hk => ?_⟩
    ·have := zEU hB hs h0 t htl
     rw [hl t htl] at this
     simp at this
    ·obtain ⟨h0, o, hok, hw⟩ := zCO.1 hk
     have hkl := (List.getElem?_eq_some_iff.1 hok).1
     rw [hl k hkl] at h0
     have hkt : k = t := by
      by_cases e : k = t
      ·exact e
      ·exfalso
       have hlt : t < k := by simp at h0; omega
       have hdc : zDQ ops L := by
        intro i oi hi hoi j hj
        have hil := (List.getElem?_eq_some_iff.1 hoi).1
        have h1 := zEL hi
        rw [hl i hil] at h1
        have hji := zDZ hB hoi j hj
        refine zCI (by omega) ?_
        rw [hl j (by omega)]
        simp at h1 ⊢
        omega
       have h2 := zBV hdc 12 _ (by rw [hok]; exact hw) t (zEX hB hkl (by omega) t hlt)
       have h3 := zEL h2
       rw [hl t htl] at h3
       simp at h3
     subst hkt
     rw [List.drop_eq_getElem_cons htl] at h
     unfold wpOp
     simp only [List.getElem?_toArray, ho]
     unfold wpList at h
     have hnext : ∀ a' w', wpList P ops.toArray Q (ops.drop (k + 1)) a' w' → wpAny P .any ops.toArray Q fuel (L.setIfInBounds k true) a' w' := fun a' w' h' => by
      refine ih _ (k + 1) a' w' (by simpa using hs) (by omega) (fun i hi => ?_) ?_ h'
      ·by_cases e : k = i
       ·subst e
        have : (L.setIfInBounds k true).getD k true = true := zEL (by simp [hs, htl])
        rw [this]
        simp
       ·rw [getD_set_ne true e, hl i hi]
        simp
        omega
      ·have := zIR L k (by rw [hl k htl]; simp) ops.length htl
       omega
     split
     ·rename_i hwn
      rw [if_pos hwn] at h
      rcases h with h | h
      ·exact .inl (Oper.wp_mono hnext h)
      ·exact .inr h
     ·rename_i hwn
      rw [if_neg hwn] at h
      exact hnext _ _ h
def Oper.growUpon (P : Program) (w : World) (R : Value → World → Prop) : Result Next → Prop
 | .ok (.value v) w' => Below w.heap.size w w' ∧ R v w'
 | .ok .skip w' => Below w.heap.size w w' ∧ R undef w'
 | .ok (.enter f args) w' => Calls P f args w' (fun e w'' => ∃ v, e = .returned v ∧ Below w.heap.size w w'' ∧ R v w'')
 | _ => False
def Oper.grows (P : Program) (o : Oper) (a : Act) (w : World) (R : Value → World → Prop) : Prop := Oper.growUpon P w R ((execOp a.eval o).run P w)
def zAN (P : Program) (ops : Array Oper) (o : Oper) (a : Act) (w : World) (R : Value → World → Prop) : Prop :=
 if Region.wanted o (yielded ops a.tmps) then o.grows P a w R else R undef w
theorem Oper.wp_of_grows {o : Oper} {a : Act} {w : World} {R : Value → World → Prop} {K : Act → World → Prop} {Q' : Exit → Act → World → Prop} (hh : o.grows P a w R)
  (h : ∀ v w', Below w.heap.size w w' → R v w' → K (a.put o.dst v) w') : o.wp P a w K Q' := by
 unfold Oper.grows at hh
 unfold Oper.wp
 generalize (execOp a.eval o).run P w = r at *
 cases r with
 | ok n w' =>
   cases n <;> simp only [Oper.growUpon] at hh <;> simp only [Oper.upon]
   case value u => exact h _ _ hh.1 hh.2
   case skip => exact h _ _ hh.1 hh.2
   case enter f args => exact hh.mono fun e w'' ⟨v, he, hb, hr⟩ => by subst he; exact h _ _ hb hr
 | halt x w' => simp only [Oper.growUpon] at hh
def zCX (R : Value → World → Prop) : Prop := ∀ v w w', Below w.heap.size w w' → R v w → R v w'
theorem grow_any (hB : zHZ ops m = true) {a0 : Act} {w0 : World} (H : Nat → Value → World → Prop) (hs : ∀ i, zCX (H i))
  (step : ∀ i o, i < m → ops[i]? = some o → ∀ vs w, Below w0.heap.size w0 w → (∀ j ∈ o.waitsOn, H j (vs j) w) → zAN P ops.toArray o (zY vs (ops.take m) 0 a0) w (H i))
  (done : ∀ vs w, Below w0.heap.size w0 w → (∀ i, i < m → H i (vs i) w) → wpList P ops.toArray Q (ops.drop m) (zY vs (ops.take m) 0 a0) w) :
  ∀ (fuel : Nat) (L : Array Bool) (a : Act) (w : World), L.size = ops.length → zDQ ops L → (∀ j, m ≤ j → L.getD j false = false) → unTo L ops.length ≤ fuel →
   (∃ vs, a = zY vs (ops.take m) 0 a0 ∧ Below w0.heap.size w0 w ∧ ∀ i, i < m → L.getD i false = true → H i (vs i) w) → wpAny P .any ops.toArray Q fuel L a w := by
 have hml := zPU hB
 intro fuel
 induction fuel with
 | zero =>
   intro L a w hL hd ht hu ⟨vs, ha, hb, hf⟩
   have hall := zGP L ops.length (by omega)
   refine zGW hB 0 L m a w hL (Nat.le_refl _) (fun i hi => ?_) hu ?_
   ·rw [hall i hi]
    by_cases e : i < m
    ·simp [e]
    ·have h1 := zCI (by omega) (hall i hi)
     rw [ht i (by omega)] at h1
     cases h1
   ·rw [ha]
    exact done vs w hb fun i hi => hf i hi (zCI (by omega) (hall i (by omega)))
 | succ fuel ih =>
   intro L a w hL hd ht hu ⟨vs, ha, hb, hf⟩
   by_cases hall : ∀ i, i < m → L.getD i true = true
   ·refine zGW hB (fuel + 1) L m a w hL (Nat.le_refl _) (fun i hi => ?_) hu ?_
    ·by_cases e : i < m
     ·rw [hall i e]; simp [e]
     ·have h1 := ht i (by omega)
      have h2 : L.getD i true = false := by
       by_cases h3 : L.getD i true = true
       ·rw [zCI (by omega) h3] at h1; cases h1
       ·simpa using h3
      rw [h2]
      simp
      omega
    ·rw [ha]
     exact done vs w hb fun i hi => hf i hi (zCI (by omega) (hall i hi))
   ·refine ⟨fun h0 => (hall fun i hi => zEU hB hL h0 i (by omega)).elim, fun k hk => ?_⟩
    obtain ⟨h0, o, hok, hw⟩ := zCO.1 hk
    have hkl := (List.getElem?_eq_some_iff.1 hok).1
    have hkm : k < m := by
     by_cases e : k < m
     ·exact e
     ·exfalso
      refine hall fun i hi => zEL ?_
      exact zBV hd 12 _ (by rw [hok]; exact hw) i (zEX hB hkl (by omega) i (by omega))
    have hdeps : ∀ j ∈ o.waitsOn, H j (vs j) w := fun j hj => hf j (by have := zDZ hB hok j hj; omega) (hw j hj)
    have hst := step k o hkm hok vs w hb hdeps
    have hnext : ∀ v w', Below w.heap.size w w' → H k v w' → wpAny P .any ops.toArray Q fuel (L.setIfInBounds k true) (a.put o.dst v) w' := fun v w' hbw hv => by
     refine ih _ _ w' (by simpa using hL) (zCB hd hok hw) (fun j hj => ?_) ?_ ⟨fun j => if j = k then v else vs j, ?_, hb.trans (hbw.mono hb.size), fun i hi hli => ?_⟩
     ·rw [getD_set_ne false (by omega)]; exact ht j hj
     ·have := zIR L k h0 ops.length hkl
      omega
     ·rw [ha]
      have := zJY vs v (ops.take m) 0 k a0 o (zGJ hB) (by rw [List.getElem?_take_of_lt hkm]; exact hok)
      rw [this]
      exact zDO _ _ _ _ _ fun j _ => by rw [Nat.zero_add]
     ·simp only
      by_cases e : i = k
      ·subst e; rw [if_pos rfl]; exact hv
      ·rw [if_neg e]
       rw [getD_set_ne false (Ne.symm e)] at hli
       exact hs i _ _ _ hbw (hf i hi hli)
    unfold wpOp
    simp only [List.getElem?_toArray, hok]
    unfold zAN at hst
    rw [← ha] at hst
    split
    ·rename_i hwn
     rw [if_pos hwn] at hst
     exact .inl (Oper.wp_of_grows hst hnext)
    ·rename_i hwn
     rw [if_neg hwn] at hst
     exact hnext _ _ (Below.refl _ _) hst
theorem wp_region_grow {id : Nat} {a0 : Act} {w0 : World} (m : Nat) (hm : P.follows .mixedOrders = true) (hB : zHZ ops m = true) (H : Nat → Value → World → Prop) (hs : ∀ i, zCX (H i))
  (step : ∀ i o, i < m → ops[i]? = some o → ∀ vs w, Below w0.heap.size w0 w → (∀ j ∈ o.waitsOn, H j (vs j) w) → zAN P ops.toArray o (zY vs (ops.take m) 0 a0) w (H i))
  (done : ∀ vs w, Below w0.heap.size w0 w → (∀ i, i < m → H i (vs i) w) → wpList P ops.toArray Q (ops.drop m) (zY vs (ops.take m) 0 a0) w) :
  (Code.region id ops.toArray true).wp P Q a0 w0 := by
 refine wp_region_any hm ?_
 obtain ⟨vs, hvs⟩ := zMA (ops.take m) 0 a0
 refine grow_any hB H hs step done _ _ _ _ (by simp) ?_ (fun j _ => ?_) ?_ ⟨vs, hvs.symm, ⟨rfl, rfl, rfl, Nat.le_refl _, fun _ _ => rfl⟩, fun i hi hli => ?_⟩
 ·intro i o hi
  rw [zEA] at hi
  cases hi
 ·exact zEA _ _
 ·simpa using zKE ops.length ops.length
 ·rw [zEA] at hli
  cases hli
def zAD (Hs : List (Value → World → Prop)) (i : Nat) : Value → World → Prop := (Hs[i]?).getD fun _ _ => True
def zFB (P : Program) (ops : Array Oper) (pre : List Oper) (a0 : Act) (w0 : World) (Q : List (Value → World → Prop) → Prop) : List Oper → List (Value → World → Prop) → Prop
 | [], Hs => Q Hs
 | o :: l, Hs => ∃ R : Value → World → Prop, zCX R ∧
   (∀ vs w, Below w0.heap.size w0 w → (∀ j ∈ o.waitsOn, zAD Hs j (vs j) w) → zAN P ops o (zY vs pre 0 a0) w R) ∧ zFB P ops pre a0 w0 Q l (Hs ++ [R])
theorem zLP {a0 : Act} {w0 : World} {Q' : List (Value → World → Prop) → Prop} (hlt : ∀ (i : Nat) (o : Oper), ops[i]? = some o → ∀ j ∈ o.waitsOn, j < i) : ∀ (l : List Oper) (Hs : List (Value → World → Prop)), (∀ R ∈ Hs, zCX R) → (∀ i, l[i]? = (ops.take m)[Hs.length + i]?) → Hs.length + l.length = m →
  zFB P ops.toArray (ops.take m) a0 w0 Q' l Hs → ∃ Hs', Q' (Hs ++ Hs') ∧ (∀ R ∈ Hs ++ Hs', zCX R) ∧ Hs'.length = l.length ∧
   ∀ (i : Nat) (o : Oper), Hs.length ≤ i → i < m → ops[i]? = some o → ∀ (vs : Nat → Value) (w : World), Below w0.heap.size w0 w → (∀ j ∈ o.waitsOn, zAD (Hs ++ Hs') j (vs j) w) → zAN P ops.toArray o (zY vs (ops.take m) 0 a0) w (zAD (Hs ++ Hs') i) := by
 intro l
 induction l with
 | nil =>
   intro Hs hst _ hlen h
   exact ⟨[], by simpa [zFB] using h, by simpa using hst, rfl, fun i o h1 h2 => by simp at hlen; omega⟩
 | cons o l ih =>
   intro Hs hst hl hlen h
   obtain ⟨R, hR, hstep, h⟩ := h
   obtain ⟨Hs', hQ, hst', hlen', hstep'⟩ := ih (Hs ++ [R]) (fun R' hR' => by
    rcases List.mem_append.1 hR' with h1 | h1
    ·exact hst _ h1
    ·simp at h1; subst h1; exact hR) (fun i => by
    have := hl (i + 1)
    simp only [List.getElem?_cons_succ] at this
    rw [this, List.length_append]
    congr 1
    simp; omega) (by simp at hlen ⊢; omega) h
   refine ⟨R :: Hs', by simpa using hQ, by simpa using hst', by simp [hlen'], fun i o' h1 h2 ho' vs w hb hd => ?_⟩
   have e : Hs ++ R :: Hs' = Hs ++ [R] ++ Hs' := by simp
   by_cases hi : i = Hs.length
   ·subst hi
    have h0 := hl 0
    simp only [List.getElem?_cons_zero, Nat.add_zero] at h0
    rw [List.getElem?_take_of_lt h2, ho'] at h0
    cases h0
    have hf : zAD (Hs ++ R :: Hs') Hs.length = R := by
     unfold zAD
     simp
    rw [hf]
    refine hstep vs w hb fun j hj => ?_
    have hjl := hlt _ _ ho' j hj
    have := hd j hj
    unfold zAD at this ⊢
    rwa [List.getElem?_append_left hjl] at this
   ·rw [e] at hd ⊢
    exact hstep' i o' (by simp; omega) h2 ho' vs w hb hd
theorem zK {id : Nat} {a0 : Act} {w0 : World} (m : Nat) (hm : P.follows .mixedOrders = true) (hB : zHZ ops m = true)
  (h : zFB P ops.toArray (ops.take m) a0 w0 (fun Hs => ∀ vs w, Below w0.heap.size w0 w → (∀ i, i < m → zAD Hs i (vs i) w) → wpList P ops.toArray Q (ops.drop m) (zY vs (ops.take m) 0 a0) w) (ops.take m) []) :
  (Code.region id ops.toArray true).wp P Q a0 w0 := by
 have hml := zPU hB
 obtain ⟨Hs, hQ, hst, _, hstep⟩ := zLP (fun i o ho => zDZ hB ho) (ops.take m) [] (fun R hR => by simp at hR) (fun i => by simp) (by simp; omega) h
 simp only [List.nil_append] at hQ hst hstep
 refine wp_region_grow m hm hB (zAD Hs) (fun i => ?_) (fun i o hi ho => hstep i o (Nat.zero_le _) hi ho) hQ
 unfold zAD
 cases hh : Hs[i]? with
 | none => exact fun _ _ _ _ h => h
 | some R => exact hst R (List.mem_of_getElem? hh)
theorem zFF {pops : Array Oper} {o : Oper} {a : Act} {w : World} {R R' : Value → World → Prop} (hg : o.guard = none) (h : o.grows P a w R') (hR : ∀ v w', R' v w' → R v w') : zAN P pops o a w R := by
 unfold zAN Region.wanted
 simp only [hg, if_true]
 unfold Oper.grows at *
 generalize (execOp a.eval o).run P w = r at *
 cases r with
 | ok n w' =>
   cases n <;> simp only [Oper.growUpon] at h ⊢
   case value u => exact ⟨h.1, hR _ _ h.2⟩
   case skip => exact ⟨h.1, hR _ _ h.2⟩
   case enter f args => exact h.mono fun e w'' ⟨v, he, hb, hr⟩ => ⟨v, he, hb, hR _ _ hr⟩
 | halt x w' => simp only [Oper.growUpon] at h
theorem wpList_grows {pops : Array Oper} {o : Oper} {rest : List Oper} {a : Act} {w : World} {R : Value → World → Prop} (hg : o.guard = none) (h : o.grows P a w R)
  (k : ∀ v w', Below w.heap.size w w' → R v w' → wpList P pops Q rest (a.put o.dst v) w') : wpList P pops Q (o :: rest) a w :=
 wpList_plain hg fun _ hK => Oper.wp_of_grows h fun v w' hb hr => hK _ _ (k v w' hb hr)
def zV (Hs : List (Value → World → Prop)) (vs : Nat → Value) (w : World) : List Nat → Prop
 | [] => True
 | j :: l => zAD Hs j (vs j) w ∧ zV Hs vs w l
theorem zGD {Hs : List (Value → World → Prop)} {vs : Nat → Value} {w : World} : ∀ {l : List Nat}, (∀ j ∈ l, zAD Hs j (vs j) w) → zV Hs vs w l
 | [], _ => trivial
 | j :: l, h => ⟨h j (by simp), zGD fun i hi => h i (by simp [hi])⟩
theorem zL {pops : Array Oper} {pre : List Oper} {a0 : Act} {w0 : World} {Q' : List (Value → World → Prop) → Prop} {o : Oper} {l : List Oper} {Hs : List (Value → World → Prop)} (R : Value → World → Prop) (hR : zCX R)
  (h : ∀ vs x, zV Hs vs (w0.later x) o.waitsOn → zAN P pops o (zY vs pre 0 a0) (w0.later x) R) (k : zFB P pops pre a0 w0 Q' l (Hs ++ [R])) : zFB P pops pre a0 w0 Q' (o :: l) Hs :=
 ⟨R, hR, fun vs w hb hd => by obtain ⟨x, rfl⟩ := zFC hb; exact h vs x (zGD hd), k⟩
theorem zAE {pops : Array Oper} {pre : List Oper} {a0 : Act} {w0 : World} {Q' : List (Value → World → Prop) → Prop} {o : Oper} {l : List Oper} {Hs : List (Value → World → Prop)}
  (h : ∃ u, (∀ vs x, zV Hs vs (w0.later x) o.waitsOn → zAN P pops o (zY vs pre 0 a0) (w0.later x) (fun v _ => v = u)) ∧ zFB P pops pre a0 w0 Q' l (Hs ++ [fun v _ => v = u])) : zFB P pops pre a0 w0 Q' (o :: l) Hs := by
 obtain ⟨u, h, k⟩ := h
 exact zL _ (fun _ _ _ _ h => h) h k
theorem zT {pops : Array Oper} {pre : List Oper} {a0 : Act} {w0 : World} {m' : Nat} {K : (Nat → Value) → World → Prop} {Hs : List (Value → World → Prop)} (hm : m' = Hs.length) (h : ∀ vs x, zV Hs vs (w0.later x) (List.range m') → K vs (w0.later x)) :
  zFB P pops pre a0 w0 (fun Hs => ∀ vs w, Below w0.heap.size w0 w → (∀ i, i < m' → zAD Hs i (vs i) w) → K vs w) [] Hs := by
 intro vs w hb hd
 obtain ⟨x, rfl⟩ := zFC hb
 exact h vs x (zGD fun j hj => hd j (List.mem_range.1 hj))
end
theorem pf_ : (∀ (vs : Nat → Value) (k : Nat) (a : Act), zY vs [] k a = a) ∧ (∀ (vs : Nat → Value) (k : Nat) (a : Act) (o : Oper) (l : List Oper), zY vs (o :: l) k a = zY vs l (k + 1) (a.put o.dst (vs k))) ∧
  (∀ (a : Act) (d : Option Tmp) (v : Value), a.put d v = match d with | some d => { a with tmps := a.tmps.setIfInBounds d v } | none => a) ∧ (∀ (l : List Value) (i : Nat) (v : Value), l.toArray.setIfInBounds i v = (l.set i v).toArray) ∧
  (∀ (x : Value) (l : List Value) (i : Nat) (v : Value), (x :: l).set (i + 1) v = x :: l.set i v) ∧ (∀ (x : Value) (l : List Value) (v : Value), (x :: l).set 0 v = v :: l) ∧
  (∀ (o : Oper) (l : List Oper) (i : Nat), (o :: l).drop (i + 1) = l.drop i) ∧ (∀ l : List Oper, l.drop 0 = l) :=
 ⟨fun _ _ _ => rfl, fun _ _ _ _ _ => rfl, fun _ _ _ => rfl, fun _ _ _ => by simp, fun _ _ _ _ => rfl, fun _ _ _ => rfl, fun _ _ _ => rfl, fun _ => rfl⟩
theorem tk_ : (∀ (o : Oper) (l : List Oper) (i : Nat), (o :: l).take (i + 1) = o :: l.take i) ∧ (∀ l : List Oper, l.take 0 = []) := ⟨fun _ _ _ => rfl, fun _ => rfl⟩
theorem hq_ : (∀ o : Oper, o.waitsOn = (o.after.toList.filter (Region.binds .any)).map (·.on)) ∧ (∀ (m : Region.Mode) (e : Edge), Region.binds m e = match e.ground with | .textOnly _ => m == .text | .gcOnly _ => m == .gc | _ => true) ∧
  (∀ (p : Edge → Bool) (e : Edge) (l : List Edge), (e :: l).filter p = if p e then e :: l.filter p else l.filter p) ∧ (∀ (Hs : List (Value → World → Prop)) (i : Nat), zAD Hs i = (Hs[i]?).getD fun _ _ => True) ∧
  (∀ (Hs : List (Value → World → Prop)) (vs : Nat → Value) (w : World), zV Hs vs w [] = True) ∧ (∀ (Hs : List (Value → World → Prop)) (vs : Nat → Value) (w : World) (j : Nat) (l : List Nat), zV Hs vs w (j :: l) = (zAD Hs j (vs j) w ∧ zV Hs vs w l)) :=
 ⟨fun _ => rfl, fun _ _ => rfl, fun _ _ _ => List.filter_cons, fun _ _ => rfl, fun _ _ _ => rfl, fun _ _ _ _ _ => rfl⟩
theorem gx_ {P : Program} {pops : Array Oper} {pre : List Oper} {a0 : Act} {w0 : World} {Q' : List (Value → World → Prop) → Prop} {o : Oper} {l : List Oper} {Hs : List (Value → World → Prop)} {u : Value}
  (h : ∀ vs x, zV Hs vs (w0.later x) o.waitsOn → zAN P pops o (zY vs pre 0 a0) (w0.later x) (fun v _ => v = u)) (k : zFB P pops pre a0 w0 Q' l (Hs ++ [fun v _ => v = u])) : zFB P pops pre a0 w0 Q' (o :: l) Hs :=
 zAE ⟨u, h, k⟩
theorem br_ {n : Nat} {w : World} : Below n w w := Below.refl _ _
theorem zF {p : Prop} (h : p) : Hid p := Lib.hid h
end Go
namespace Go.Proofs.YtpolpdegpbahiaaGreatDoor
section
open Go.RowKit
def zGI (R : List Issue) (B : Int) : Prop := ∃ n ∈ nums R, B < dep R ((nums R).length + 1) n
open Classical in
noncomputable def zAC (R : List Issue) : Int :=
 if zEM R then (if zGI R (nums R).length then 21 else if zGI R 6 then 20 else 0) else 20
theorem zCZ {R : List Issue} (h : ¬ zEM R) : zAC R = 20 := by unfold zAC; rw [if_neg h]
theorem zKQ {R : List Issue} (h : zEM R) (h1 : zGI R (nums R).length) : zAC R = 21 := by unfold zAC; rw [if_pos h, if_pos h1]
theorem zOZ {R : List Issue} (h : zEM R) (h1 : ¬ zGI R (nums R).length) (h2 : zGI R 6) : zAC R = 20 := by unfold zAC; rw [if_pos h, if_neg h1, if_pos h2]
theorem regCode_ok {R : List Issue} (h : zEM R) (h1 : ¬ zGI R (nums R).length) (h2 : ¬ zGI R 6) : zAC R = 0 := by unfold zAC; rw [if_pos h, if_neg h1, if_neg h2]
def zIQ (l : List Int) : Nat → Int
 | 0 => 0
 | k + 1 => max (zIQ l k) (l[k]?.getD 0)
theorem maxTo_gt (l : List Int) (B : Int) (hB : 0 ≤ B) (k : Nat) (hk : k ≤ l.length) : B < zIQ l k ↔ ∃ j, j < k ∧ B < l[j]?.getD 0 := by
 induction k with
 | zero => simp [zIQ]; omega
 | succ k ih =>
   have ih := ih (by omega)
   simp only [zIQ]
   constructor
   ·intro h
    by_cases h1 : B < zIQ l k
    ·obtain ⟨j, hj, hb⟩ := ih.1 h1
     exact ⟨j, by omega, hb⟩
    ·exact ⟨k, by omega, by omega⟩
   ·rintro ⟨j, hj, hb⟩
    by_cases e : j = k
    ·subst e; omega
    ·have := ih.2 ⟨j, by omega, hb⟩
     omega
theorem zOT (R : List Issue) (B : Int) (hB : 0 ≤ B) : B < zIQ ((nums R).map (dep R ((nums R).length + 1))) (nums R).length ↔ zGI R B := by
 rw [maxTo_gt _ B hB _ (by simp)]
 constructor
 ·rintro ⟨j, hj, hb⟩
  simp [hj] at hb
  exact ⟨_, List.getElem_mem hj, hb⟩
 ·rintro ⟨n, hn, hb⟩
  obtain ⟨j, hj, rfl⟩ := List.getElem_of_mem hn
  exact ⟨j, hj, by simpa [hj] using hb⟩
theorem maxTo_bd (l : List Int) (k : Nat) (h : ∀ x ∈ l, 0 ≤ x ∧ x ≤ 1000) : 0 ≤ zIQ l k ∧ zIQ l k ≤ 1000 := by
 induction k with
 | zero => simp [zIQ]
 | succ k ih =>
   simp only [zIQ]
   cases hk : l[k]? with
   | none => simp; omega
   | some x =>
     have := h x (List.mem_of_getElem? hk)
     simp; omega
theorem check02 (w : World) (v : Value) (R : List Issue) (h : Sl zAU 5 w v R) :
  Calls Tryz.prog 112 #[.agg #[v]] w fun e w' => e = .returned (.int .i64 (zAC R)) ∧ Below w.heap.size w w' := by
 obtain ⟨hb1, B1⟩ := zAZ w #[v] 24
 have c0 := B1 0 v rfl
 clear B1
 obtain ⟨a, cap, rfl, hm⟩ := zD h
 have h1 := zI zP hb1 h
 have C0 := Lib.hid c0
 unfold zJ at c0
 clear h
 go_enter Tryz.func112, Tryz.ntmps112
 go_wp2_with fail
 clear c0
 generalize w.alloc _ = w1 at *
 refine (listed02 _ _ R h1).mono ?_
 intro e w2 hh
 rcases hh.both with ⟨hl, rfl, hb2⟩ | ⟨hl, rfl, hb2⟩
 case inr =>
  clear hh
  go_wp2
  go_ret
  exact ⟨zBT (zCZ hl).symm, zA hb1 hb2⟩
 clear hh
 have hb3 := zA hb1 hb2
 have c2 := zC hb2 C0.out
 have h2 := zI zP hb2 h1
 unfold zJ at c2
 clear hb1 hb2 h1 C0
 go_wp2_with fail
 refine (depths02 _ _ R h2 hl).mono ?_
 rintro e w3 ⟨u, rfl, hu, hb4⟩
 have hb5 := zA hb3 hb4
 clear hb3 hb4 h2 c2
 have hN20 := hl.2.2.2
 have k1 := Lib.hid (@zKQ R hl)
 have k2 := Lib.hid (@zOZ R hl)
 have k3 := Lib.hid (@regCode_ok R hl)
 have hd1 := Lib.hid (zOT R (nums R).length (by omega))
 have hd2 := Lib.hid (zOT R 6 (by omega))
 have hbd := Lib.hid (fun k => maxTo_bd ((nums R).map (dep R ((nums R).length + 1))) k (fun x hx => by
  obtain ⟨n, _, rfl⟩ := List.mem_map.1 hx
  have := zJP R ((nums R).length + 1) n
  omega))
 have hlen : ((nums R).map (dep R ((nums R).length + 1))).length = (nums R).length := by simp
 clear hl
 generalize hL : (nums R).map (dep R ((nums R).length + 1)) = L at *
 clear hL
 generalize (nums R).length = N at *
 obtain ⟨au, capu, rfl, hmu⟩ := zD hu
 have HLEN := Lib.hid hlen
 clear hlen
 go_wp2
 go_loop [4, 5] (fun m i => ∃ k : Nat, i = .int .i64 k ∧ k ≤ L.length ∧ m = .int .i64 (zIQ L k)) (fun _ i => L.length - (intOf i).toNat)
 case atStart => exact ⟨0, rfl, by omega, rfl⟩
 case round =>
  obtain ⟨k, rfl, hk, rfl⟩ := hrel
  by_cases hlt : k < L.length
  ·obtain ⟨b, off, rfl, hc, _⟩ := (zZ hu).2 k hlt
   unfold zJ at hc
   rw [Nat.mul_one] at hc
   have hs : Hid (zIQ L (k + 1) = max (zIQ L k) L[k]) := by
    show zIQ L (k + 1) = _
    simp only [zIQ, List.getElem?_eq_getElem hlt, Option.getD_some]
   generalize L[k] = x at *
   clear hu
   generalize zIQ L k = mk at *
   by_cases hx : x ≤ mk
   ·have hx' : ¬ (x > mk) := by omega
    go_wp2
    go_round
    case rel => exact ⟨k + 1, by go_num, by omega, by rw [hs.out, Int.max_eq_left hx]⟩
    case measure => simp [intOf]; omega
   ·have hx' : x > mk := by omega
    go_wp2
    go_round
    case rel => exact ⟨k + 1, by go_num, by omega, by rw [hs.out, Int.max_eq_right (by omega)]⟩
    case measure => simp [intOf]; omega
  ·obtain rfl : k = L.length := by omega
   have hb := hbd.out L.length
   have hb0 := hb.1
   have hb6 := hb.2
   clear hu hb
   have hd1' := Lib.hid (show (N : Int) < zIQ L L.length ↔ zGI R N from by rw [HLEN.out]; exact hd1.out)
   have hd2' := Lib.hid (show (6 : Int) < zIQ L L.length ↔ zGI R 6 from by rw [HLEN.out]; exact hd2.out)
   have hN' : L.length ≤ 20 := by rw [HLEN.out]; exact hN20
   generalize zIQ L L.length = mx at *
   by_cases h1 : (N : Int) < mx
   ·have h1' : (L.length : Int) < mx := by rw [HLEN.out]; exact h1
    go_wp2
    go_ret
    exact ⟨zBT (k1.out (hd1'.out.1 h1)).symm, hb5⟩
   ·have h1' : ¬ (L.length : Int) < mx := by rw [HLEN.out]; exact h1
    by_cases h2 : 6 < mx
    ·go_wp2
     go_ret
     exact ⟨zBT (k2.out (fun h => by have := hd1'.out.2 h; omega) (hd2'.out.1 h2)).symm, hb5⟩
    ·go_wp2
     go_ret
     exact ⟨zBT (k3.out (fun h => by have := hd1'.out.2 h; omega) (fun h => by have := hd2'.out.2 h; omega)).symm, hb5⟩
end
section
open Go.RowKit
def Free (w : World) (b : Nat) : Prop := b < w.heap.size ∧ ∀ j, w.frozen? ⟨b, j, none⟩ = false
theorem zIK (w : World) (cs : Array Value) (t : TypeId) : Free (w.alloc (.cells cs t)) w.heap.size :=
 ⟨by simp, fun _ => World.frozen?_alloc_at _ _ _ _ rfl⟩
theorem zDK {w w' : World} (hb : Below w.heap.size w w') {b : Nat} (h : Free w b) : Free w' b :=
 ⟨Nat.lt_of_lt_of_le h.1 hb.size, fun j => (hb.frozen (p := ⟨b, j, none⟩) h.1).trans (h.2 j)⟩
def zEZ (d l : Int) (x : Issue) : Bool := x.d == d && x.l == l
def zDB (R : List Issue) (d l : Int) : Option Issue := R.find? (zEZ d l)
theorem findR_at (R : List Issue) (d l : Int) (k : Nat) (hk : k < R.length) (h : zEZ d l R[k] = true) (hf : ∀ j, j < k → (hj : j < R.length) → zEZ d l R[j] = false) : zDB R d l = some R[k] := by
 unfold zDB
 rw [List.find?_eq_some_iff_getElem]
 exact ⟨h, k, hk, rfl, fun j hj => by simp [hf j hj (by omega)]⟩
theorem findR_none (R : List Issue) (d l : Int) (hf : ∀ j, (hj : j < R.length) → zEZ d l R[j] = false) : zDB R d l = none := by
 unfold zDB
 rw [List.find?_eq_none]
 intro x hx
 obtain ⟨j, hj, rfl⟩ := List.getElem_of_mem hx
 simp [hf j hj]
def zHS : Array Value := #[.int .i64 0, .int .i64 0, .int .u8 0, .slice none 0 0, .slice none 0 0]
def RetFind (R : List Issue) (d l : Int) (w : World) (e : Ending) (w' : World) : Prop :=
 Below w.heap.size w w' ∧
 ((∃ x vi vd, zDB R d l = some x ∧ e = .returned (.tuple #[.agg #[.int .i64 x.d, .int .i64 x.l, .int .u8 x.k, vi, vd], .bool true]) ∧ IssueAt w' vi vd x) ∨
  (zDB R d l = none ∧ e = .returned (.tuple #[.agg #[.int .i64 0, .int .i64 0, .int .u8 0, .slice none 0 0, .slice none 0 0], .bool false])))
def RetFindW (R : List Issue) (d l : Int) (w0 w : World) (e : Ending) (w' : World) : Prop :=
 Below w.heap.size w w' ∧
 ((∃ x vi vd, zDB R d l = some x ∧ e = .returned (.tuple #[.agg #[.int .i64 x.d, .int .i64 x.l, .int .u8 x.k, vi, vd], .bool true]) ∧ IssueAt w0 vi vd x) ∨
  (zDB R d l = none ∧ e = .returned (.tuple #[.agg #[.int .i64 0, .int .i64 0, .int .u8 0, .slice none 0 0, .slice none 0 0], .bool false])))
theorem boxed3 (w : World) (cs cs' cs'' : Array Value) (t t' t'' : TypeId) : Below w.heap.size w (((w.alloc (.cells cs t)).alloc (.cells cs' t')).alloc (.cells cs'' t'')) ∧
  (∀ j v, cs[j]? = some v → zJ (((w.alloc (.cells cs t)).alloc (.cells cs' t')).alloc (.cells cs'' t'')) w.heap.size j v) ∧
  (∀ j v, cs'[j]? = some v → zJ (((w.alloc (.cells cs t)).alloc (.cells cs' t')).alloc (.cells cs'' t'')) (w.heap.size + 1) j v) ∧
  (∀ j v, cs''[j]? = some v → zJ (((w.alloc (.cells cs t)).alloc (.cells cs' t')).alloc (.cells cs'' t'')) (w.heap.size + 1 + 1) j v) ∧
  Free (((w.alloc (.cells cs t)).alloc (.cells cs' t')).alloc (.cells cs'' t'')) (w.heap.size + 1 + 1) := by
 obtain ⟨h1, h2, h3⟩ := zDY w cs cs' t t'
 refine ⟨zA h1 (zB _ _), fun j v h => zC (zB _ _) (h2 j v h), fun j v h => zC (zB _ _) (h3 j v h), fun j v h => ?_, ?_⟩
 ·have := zU ((w.alloc (.cells cs t)).alloc (.cells cs' t')) cs'' t'' j v h
  rwa [World.size_alloc, World.size_alloc] at this
 ·have := zIK ((w.alloc (.cells cs t)).alloc (.cells cs' t')) cs'' t''
  rwa [World.size_alloc, World.size_alloc] at this
theorem find02w (w0 w : World) (v : Value) (R : List Issue) (d l : Int) (h : Sl zAU 5 w0 v R) (hb0 : Below w0.heap.size w0 w) :
  Calls Tryz.prog 93 #[.agg #[v], .agg #[.int .i64 d, .int .i64 l]] w (RetFindW R d l w0 w) := by
 obtain ⟨hb1, B1, B2, B3, hfr⟩ := boxed3 w #[v] #[.int .i64 d, .int .i64 l] #[.int .i64 0, .int .i64 0, .int .u8 0, .slice none 0 0, .slice none 0 0] 24 34 107
 have c0 := B1 0 v rfl
 have d0 := B2 0 (.int .i64 d) rfl
 have d1 := B2 1 (.int .i64 l) rfl
 have r0 := B3 0 (.int .i64 0) rfl
 have r1 := B3 1 (.int .i64 0) rfl
 have r2 := B3 2 (.int .u8 0) rfl
 have r3 := B3 3 (.slice none 0 0) rfl
 have r4 := B3 4 (.slice none 0 0) rfl
 clear B1 B2 B3
 obtain ⟨a, cap, rfl, hm⟩ := zD h
 have HF := Lib.hid hfr
 have K : Hid (zJ (((w.alloc (.cells #[.slice a R.length cap] 24)).alloc (.cells #[.int .i64 d, .int .i64 l] 34)).alloc (.cells #[.int .i64 0, .int .i64 0, .int .u8 0, .slice none 0 0, .slice none 0 0] 107)) w.heap.size 0 (.slice a R.length cap)) := c0
 have D0 := Lib.hid d0
 have D1 := Lib.hid d1
 have R0 := Lib.hid r0
 have R1 := Lib.hid r1
 have R2 := Lib.hid r2
 have R3 := Lib.hid r3
 have R4 := Lib.hid r4
 clear hfr c0 d0 d1 r0 r1 r2 r3 r4
 go_enter Tryz.func93, Tryz.ntmps93
 go_wp2
 generalize ((w.alloc _).alloc _).alloc _ = w1 at *
 generalize hpr : w.heap.size + 1 + 1 = pr at *
 generalize hpd : w.heap.size + 1 = pd at *
 have hpw : w.heap.size ≤ pr := by omega
 clear hpr hpd
 go_loopw [6] (fun i wr => ∃ k : Nat, i = .int .i64 k ∧ k ≤ R.length ∧ Below w1.heap.size w1 wr ∧ ∀ j, j < k → (hj : j < R.length) → zEZ d l R[j] = false) (fun i _ => R.length - (intOf i).toNat)
 case atStart => exact ⟨0, rfl, by omega, Below.refl _ _, fun j hj => absurd hj (by omega)⟩
 case round =>
  obtain ⟨k, rfl, hk, hb, hall⟩ := hrel
  have HALL := Lib.hid hall
  clear hall
  have e0 := zC hb K.out
  have x0 := zC hb D0.out
  have x1 := zC hb D1.out
  have y0 := zC hb R0.out
  have y1 := zC hb R1.out
  have y2 := zC hb R2.out
  have y3 := zC hb R3.out
  have y4 := zC hb R4.out
  have fr := zDK hb HF.out
  have f0 := fr.2 0
  have f1 := fr.2 1
  have f2 := fr.2 2
  have f3 := fr.2 3
  have f4 := fr.2 4
  have hsz2 := fr.1
  have hsz1 := zAF x0
  have hsz0 := zAF e0
  unfold zJ at e0 x0 x1 y0 y1 y2 y3 y4
  clear fr
  by_cases hlt : k < R.length
  ·obtain ⟨b, off, rfl, ⟨q0, q1, q2⟩, hnum, vi, vd, q3, q4, si, sd⟩ := (zZ h).2 k hlt
   have hw := zA hb1 hb
   have hw0 := zA hb0 hw
   have q0 := zC hw0 q0
   have q1 := zC hw0 q1
   have q2 := zC hw0 q2
   have q3 := zC hw0 q3
   have q4 := zC hw0 q4
   clear hw0
   have hbl := zAF q0
   unfold zJ at q0 q1 q2 q3 q4
   generalize hx : R[k] = x at *
   have HX := Lib.hid hx
   clear hx
   obtain ⟨ai, capi, rfl, _⟩ := zD si
   obtain ⟨ad, capd, rfl, _⟩ := zD sd
   by_cases g1 : (x.d == d) = true
   ·by_cases g2 : (x.l == l) = true
    ·go_wp2
     refine bodyPost_ret (v := .tuple #[.agg #[.int .i64 x.d, .int .i64 x.l, .int .u8 x.k, .slice ai x.items.length capi, .slice ad x.dims.length capd], .bool true]) ?_ rfl ?_
     ·simp [results, Tryz.results93, go_sem, y0, y1, y2, y3, y4, hsz2]
     ·have hW := ((((((hw.setCell (p := ⟨pr, 0, none⟩) hpw (.int .i64 x.d)).setCell (p := ⟨pr, 1, none⟩) hpw (.int .i64 x.l)).setCell (p := ⟨pr, 2, none⟩) hpw (.int .u8 x.k)).setCell (p := ⟨pr, 3, none⟩) hpw (.slice ai x.items.length capi)).setCell (p := ⟨pr, 4, none⟩) hpw (.slice ad x.dims.length capd)).alloc (by simpa using hw.size) (.cells #[.int .i64 x.d, .int .i64 x.l, .int .u8 x.k, .slice ai x.items.length capi, .slice ad x.dims.length capd] 107))
      refine ⟨hW, .inl ⟨x, _, _, ?_, rfl, si, sd, hnum⟩⟩
      rw [← HX.out]
      exact findR_at R d l k hlt (by rw [HX.out]; simp [zEZ, g1, g2]) HALL.out
    ·have g2' : (x.l == l) = false := by simpa using g2
     go_wp2
     go_roundw
     case rel => exact ⟨k + 1, by go_num, by omega, hb.alloc hb.size _, zAO _ k HALL.out (fun _ => by rw [HX.out]; simp [zEZ, g2'])⟩
     case measure => simp [intOf]; omega
   ·have g1' : (x.d == d) = false := by simpa using g1
    go_wp2
    go_roundw
    case rel => exact ⟨k + 1, by go_num, by omega, hb.alloc hb.size _, zAO _ k HALL.out (fun _ => by rw [HX.out]; simp [zEZ, g1'])⟩
    case measure => simp [intOf]; omega
  ·clear h
   go_wp2
   refine bodyPost_ret (v := .tuple #[.agg #[.int .i64 0, .int .i64 0, .int .u8 0, .slice none 0 0, .slice none 0 0], .bool false]) ?_ rfl ?_
   ·simp [results, Tryz.results93, go_sem, y0, y1, y2, y3, y4]
   ·have hw := zA hb1 hb
    have hW := (((((hw.setCell (p := ⟨pr, 0, none⟩) hpw (.int .i64 0)).setCell (p := ⟨pr, 1, none⟩) hpw (.int .i64 0)).setCell (p := ⟨pr, 2, none⟩) hpw (.int .u8 0)).setCell (p := ⟨pr, 3, none⟩) hpw (.slice none 0 0)).setCell (p := ⟨pr, 4, none⟩) hpw (.slice none 0 0))
    exact ⟨hW, .inr ⟨findR_none R d l (fun j hj => HALL.out j (by omega) hj), rfl⟩⟩
theorem find02 (w : World) (v : Value) (R : List Issue) (d l : Int) (h : Sl zAU 5 w v R) :
  Calls Tryz.prog 93 #[.agg #[v], .agg #[.int .i64 d, .int .i64 l]] w (RetFind R d l w) := by
 refine (find02w w w v R d l h (Below.refl _ _)).mono ?_
 rintro e w' ⟨hb, hf⟩
 refine ⟨hb, ?_⟩
 rcases hf with ⟨x, vi, vd, h1, h2, h3⟩ | h
 ·exact .inl ⟨x, vi, vd, h1, h2, h3.ext hb⟩
 ·exact .inr h
end
end Go.Proofs.YtpolpdegpbahiaaGreatDoor
namespace Go.Proofs.YtpolpdegpbahiaaGreatDoor
open Tryz
open Go.RowKit
def Fr {α : Type} (base : Nat) (e : TypeId) (E : World → Nat → Nat → α → Prop) : World → Nat → Nat → α → Prop :=
 fun w b o x => E w b o x ∧ base ≤ b ∧ ∃ cur, w.heap[b]? = some (.cells cur e (0, 0))
def zHM (base : Nat) (e : TypeId) (w w' : World) : Prop := ∀ k cur, base ≤ k → w.heap[k]? = some (.cells cur e (0, 0)) → w'.heap[k]? = some (.cells cur e (0, 0))
theorem zNI {base : Nat} {e : TypeId} {w w' : World} (hb : Below w.heap.size w w') : zHM base e w w' := fun k _ _ hc => (hb.block k (Array.getElem?_eq_some_iff.1 hc).1).trans hc
theorem zCM {base g j : Nat} {e : TypeId} {w : World} {u : Value} (hg : g < base) : zHM base e w (w.setCell ⟨g, j, none⟩ u) := fun k _ hk hc =>
 (Below.heap_setCell w ⟨g, j, none⟩ u k (by simp; omega)).trans hc
theorem zJX {base : Nat} {e e' : TypeId} {w w' : World} {v : Value} {sz n : Nat} {cs : List Value} {base' : Nat} (hgr : w.grownBy w' v.ownBlock) (hown : w.ownsRow base' e' sz v n cs) (hne : e ≠ e') : zHM base e w w' := fun k cur _ hc => by
 have hk := (Array.getElem?_eq_some_iff.1 hc).1
 refine (hgr.block k hk (fun h => ?_)).trans hc
 rcases hown.2 with ⟨rfl, _⟩ | ⟨g, cap, cur', rfl, _, hcur, _⟩
 ·simp [Value.ownBlock] at h
 ·simp [Value.ownBlock] at h
  subst h
  rw [hcur] at hc
  cases hc
  exact hne rfl
theorem zHM.trans {base : Nat} {e : TypeId} {w w1 w2 : World} (h : zHM base e w w1) (k : zHM base e w1 w2) : zHM base e w w2 := fun b cur hb hc => k b cur hb (h b cur hb hc)
theorem zBU {α : Type} {base : Nat} {e : TypeId} {E : World → Nat → Nat → α → Prop} (hE : zHU E) : zHU (Fr base e E) := fun w w' b o x hb h =>
 ⟨hE _ _ _ _ _ hb h.1, h.2.1, by obtain ⟨cur, hc⟩ := h.2.2; exact ⟨cur, zNI (base := 0) hb b cur (Nat.zero_le _) hc⟩⟩
theorem sl_map {α : Type} {E E' : World → Nat → Nat → α → Prop} {sz : Nat} {w : World} {v : Value} {xs : List α} (h : ∀ b o x, E w b o x → E' w b o x) (hs : Sl E sz w v xs) : Sl E' sz w v xs := by
 obtain ⟨a, cap, hv, hm, hc⟩ := hs
 exact ⟨a, cap, hv, hm, fun k hk => by obtain ⟨b, off, ha, he⟩ := hc k hk; exact ⟨b, off, ha, h _ _ _ he⟩⟩
theorem sl_to {α : Type} {E E' : World → Nat → Nat → α → Prop} {sz : Nat} {w w' : World} {v : Value} {xs : List α} (h : ∀ b o x, E w b o x → E' w' b o x) (hs : Sl E sz w v xs) : Sl E' sz w' v xs := by
 obtain ⟨a, cap, hv, hm, hc⟩ := hs
 exact ⟨a, cap, hv, hm, fun k hk => by obtain ⟨b, off, ha, he⟩ := hc k hk; exact ⟨b, off, ha, h _ _ _ he⟩⟩
theorem zOJ {α : Type} {base : Nat} {e : TypeId} {E : World → Nat → Nat → α → Prop} {sz : Nat} {w : World} {v : Value} {xs : List α} (h : Sl (Fr base e E) sz w v xs) : Sl E sz w v xs := sl_map (fun _ _ _ h => h.1) h
theorem zEF {α : Type} {base base' : Nat} (hb : base' ≤ base) {e : TypeId} {E : World → Nat → Nat → α → Prop} {sz : Nat} {w : World} {v : Value} {xs : List α} (h : Sl (Fr base e E) sz w v xs) : Sl (Fr base' e E) sz w v xs :=
 sl_map (fun _ _ _ h => ⟨h.1, Nat.le_trans hb h.2.1, h.2.2⟩) h
theorem zGS {α : Type} (E : World → Nat → Nat → α → Prop) (sz : Nat) (w : World) (a : Option Addr) (cap : Nat) : Sl E sz w (.slice a 0 cap) ([] : List α) :=
 ⟨a, cap, rfl, by simp, fun k hk => by simp at hk⟩
theorem zMS {α : Type} {E : World → Nat → Nat → α → Prop} {sz : Nat} {w : World} {v : Value} {xs : List α} {base : Nat} {e : TypeId} {cs : List Value} (h : Sl E sz w v xs) (hown : w.ownsRow base e sz v xs.length cs) : Sl (Fr base e E) sz w v xs := by
 obtain ⟨a, cap, hv, hm, hc⟩ := h
 refine ⟨a, cap, hv, hm, fun k hk => ?_⟩
 obtain ⟨b, off, ha, he⟩ := hc k hk
 refine ⟨b, off, ha, he, ?_⟩
 subst ha
 rcases hown.2 with ⟨h0, _⟩ | ⟨g, cap', cur, hv', hg, hcur, _⟩
 ·rw [h0] at hv; cases hv
 ·rw [hv'] at hv
  cases hv
  exact ⟨hg, cur, hcur⟩
theorem New.fr {α : Type} {E : World → Nat → Nat → α → Prop} {sz : Nat} {e : TypeId} {base : Nat} {w : World} {v : Value} {xs : List α} (h : New E sz e base w v xs) : Sl (Fr base e E) sz w v xs := by
 obtain ⟨h1, cs, h2⟩ := h
 exact zMS h1 h2
def Local {α : Type} (E : World → Nat → Nat → α → Prop) : Prop := ∀ w w' b o x, w'.heap[b]? = w.heap[b]? → E w b o x → E w' b o x
theorem zAG {w w' : World} {b o : Nat} {v : Value} (h : w'.heap[b]? = w.heap[b]?) (hc : zJ w b o v) : zJ w' b o v := by
 unfold zJ at *
 rw [World.cell?_of_block (w := w) (a := ⟨b, o, none⟩) h]
 exact hc
theorem local_int : Local zAJ := fun _ _ _ _ _ h ⟨h0, hr⟩ => ⟨zAG h h0, hr⟩
theorem zKG : Local zCP := fun _ _ _ _ _ h ⟨⟨h0, h1⟩, hr⟩ => ⟨⟨zAG h h0, zAG h h1⟩, hr⟩
theorem zMX : Local zGQ := fun _ _ _ _ _ h ⟨⟨h0, h1, h2⟩, hr⟩ => ⟨⟨zAG h h0, zAG h h1, zAG h h2⟩, hr⟩
theorem zHQ : Local zBM := fun _ _ _ _ _ h ⟨⟨h0, h1, h2, h3, h4, h5, h6, h7, h8, h9⟩, hr⟩ =>
 ⟨⟨zAG h h0, zAG h h1, zAG h h2, zAG h h3, zAG h h4, zAG h h5, zAG h h6, zAG h h7, zAG h h8, zAG h h9⟩, hr⟩
theorem local_heap : Local zHA := fun _ _ _ _ _ h ⟨⟨h0, h1, h2, h3⟩, hr⟩ => ⟨⟨zAG h h0, zAG h h1, zAG h h2, zAG h h3⟩, hr⟩
theorem local_report : Local zDD := fun _ _ _ _ _ h ⟨⟨h0, h1, h2, h3, h4⟩, hr⟩ => ⟨⟨zAG h h0, zAG h h1, zAG h h2, zAG h h3, zAG h h4⟩, hr⟩
theorem zLN {α : Type} {base : Nat} {e : TypeId} {E : World → Nat → Nat → α → Prop} {sz : Nat} (hE : Local E) {w w' : World} (h : zHM base e w w') {v : Value} {xs : List α} (hh : Sl (Fr base e E) sz w v xs) : Sl (Fr base e E) sz w' v xs :=
 sl_to (fun b o x ⟨he, hb, cur, hc⟩ => ⟨hE w w' b o x ((h b cur hb hc).trans hc.symm) he, hb, cur, h b cur hb hc⟩) hh
theorem zKZ {α : Type} {base g j : Nat} {e : TypeId} {u : Value} {E : World → Nat → Nat → α → Prop} {sz : Nat} (hE : Local E) (hg : g < base) {w : World} {v : Value} {xs : List α} (h : Sl (Fr base e E) sz w v xs) : Sl (Fr base e E) sz (w.setCell ⟨g, j, none⟩ u) v xs :=
 zLN hE (zCM hg) h
theorem zH {B g j : Nat} {u : Value} {w w' : World} (hg : B ≤ g) (h : Below B w w') : Below B w (w'.setCell ⟨g, j, none⟩ u) := h.setCell (p := ⟨g, j, none⟩) hg u
theorem grown_set (w : World) (g j : Nat) (u : Value) : w.grownBy (w.setCell ⟨g, j, none⟩ u) (some g) :=
 ⟨rfl, rfl, rfl, by simp, fun k _ hk => Below.heap_setCell w ⟨g, j, none⟩ u k (fun h => hk (by rw [h]))⟩
theorem zJG {w : World} {base g j : Nat} {e : TypeId} {sz n : Nat} {v u : Value} {cs : List Value} (h : w.ownsRow base e sz v n cs) (hg : g < base) : (w.setCell ⟨g, j, none⟩ u).ownsRow base e sz v n cs :=
 h.kept (grown_set w g j u) (.inr fun e => by have := (h.lt g e).1; omega)
theorem zCT {w : World} {base : Nat} {e : TypeId} {sz : Nat} {v : Value} {k : Nat} {cs : List Value} (h : w.ownsRow base e sz v (k + 1) cs) : ∃ g cap, v = .slice (some ⟨g, 0, none⟩) (k + 1) cap := by
 rcases h.2 with ⟨_, h0⟩ | ⟨g, cap, _, rfl, _⟩
 ·omega
 ·exact ⟨g, cap, rfl⟩
theorem zCD {w w' : World} {base : Nat} {e : TypeId} {sz n : Nat} {v : Value} {cs : List Value} (hown : w.ownsRow base e sz v n cs) (hg : w.grownBy w' v.ownBlock) {b o : Nat} {u : Value} (hb : b < base) (h : zJ w b o u) : zJ w' b o u :=
 zAG (hg.block b (zAF h) (fun e => by have := (hown.lt b e.symm).1; omega)) h
theorem free_local {w w' : World} {b : Nat} (hs : w.heap.size ≤ w'.heap.size) (h : w'.heap[b]? = w.heap[b]?) (hf : Free w b) : Free w' b :=
 ⟨Nat.lt_of_lt_of_le hf.1 hs, fun j => (World.frozen?_of_block (a := ⟨b, j, none⟩) h).trans (hf.2 j)⟩
theorem grown_free {w w' : World} {base : Nat} {e : TypeId} {sz n : Nat} {v : Value} {cs : List Value} (hown : w.ownsRow base e sz v n cs) (hg : w.grownBy w' v.ownBlock) {b : Nat} (hb : b < base) (h : Free w b) : Free w' b :=
 free_local hg.size (hg.block b h.1 (fun e => by have := (hown.lt b e.symm).1; omega)) h
theorem zAI {w0 w w' : World} {base : Nat} {e : TypeId} {sz n : Nat} {v : Value} {cs : List Value} (hown : w.ownsRow base e sz v n cs) (hg : w.grownBy w' v.ownBlock) (hb : Below w0.heap.size w0 w) (hz : w0.heap.size ≤ base) : Below w0.heap.size w0 w' :=
 hb.grown hg hb.size (fun k e => Nat.le_trans hz (hown.lt k e).1)
theorem zKC {w : World} {b g j : Nat} {u : Value} (h : Free w b) : Free (w.setCell ⟨g, j, none⟩ u) b := ⟨by simpa using h.1, fun k => by rw [World.frozen?_setCell]; exact h.2 k⟩
theorem zBZ {w : World} {b o j : Nat} {u v : Value} (hne : o ≠ j) (h : zJ w b o v) : zJ (w.setCell ⟨b, j, none⟩ u) b o v := by
 unfold zJ at *
 rw [World.cell?_setCell_other]
 ·exact h
 ·intro e; cases e; exact hne rfl
theorem zIM {w : World} {g j : Nat} {u v : Value} (h : zJ w g j v) : zJ (w.setCell ⟨g, j, none⟩ u) g j u := World.cell?_setCell_same w ⟨g, j, none⟩ u h
def zED (base : Nat) (w : World) (b o : Nat) (x : Issue) : Prop :=
 (zJ w b o (.int .i64 x.d) ∧ zJ w b (o + 1) (.int .i64 x.l) ∧ zJ w b (o + 2) (.int .u8 x.k)) ∧ (I64 x.d ∧ I64 x.l ∧ U8 x.k) ∧
 ∃ vi vd, zJ w b (o + 3) vi ∧ zJ w b (o + 4) vd ∧ Sl (Fr base 205 zCP) 2 w vi x.items ∧ Sl (Fr base 252 zGQ) 3 w vd x.dims
theorem issueN_issue {base : Nat} {w : World} {b o : Nat} {x : Issue} (h : zED base w b o x) : zAU w b o x := by
 obtain ⟨h1, h2, vi, vd, h3, h4, h5, h6⟩ := h
 exact ⟨h1, h2, vi, vd, h3, h4, zOJ h5, zOJ h6⟩
theorem zGY {base : Nat} : zHU (zED base) := fun _ _ _ _ _ hb ⟨⟨h1, h2, h3⟩, hr, vi, vd, h4, h5, h6, h7⟩ =>
 ⟨⟨zC hb h1, zC hb h2, zC hb h3⟩, hr, vi, vd, zC hb h4, zC hb h5, zI (zBU zBB) hb h6, zI (zBU zBY) hb h7⟩
theorem zFW {base base' : Nat} {w w' : World} (h : zHM base' 107 w w') (hi : zHM base 205 w w') (hd : zHM base 252 w w') {v : Value} {xs : List Issue} (hh : Sl (Fr base' 107 (zED base)) 5 w v xs) :
  Sl (Fr base' 107 (zED base)) 5 w' v xs :=
 sl_to (fun b o x ⟨⟨⟨h1, h2, h3⟩, hr, vi, vd, h4, h5, h6, h7⟩, hb, cur, hc⟩ => by
  have e := (h b cur hb hc).trans hc.symm
  exact ⟨⟨⟨zAG e h1, zAG e h2, zAG e h3⟩, hr, vi, vd, zAG e h4, zAG e h5, zLN zKG hi h6, zLN zMX hd h7⟩, hb, cur, h b cur hb hc⟩) hh
def IssRow (base : Nat) (w : World) (cs : List Value) (xs : List Issue) : Prop :=
 cs.length = xs.length * 5 ∧ ∀ k (hk : k < xs.length), (I64 xs[k].d ∧ I64 xs[k].l ∧ U8 xs[k].k) ∧ ∃ vi vd, cs[k * 5]? = some (.int .i64 xs[k].d) ∧ cs[k * 5 + 1]? = some (.int .i64 xs[k].l) ∧ cs[k * 5 + 2]? = some (.int .u8 xs[k].k) ∧
  cs[k * 5 + 3]? = some vi ∧ cs[k * 5 + 4]? = some vd ∧ Sl (Fr base 205 zCP) 2 w vi xs[k].items ∧ Sl (Fr base 252 zGQ) 3 w vd xs[k].dims
theorem issRow_nil (base : Nat) (w : World) : IssRow base w [] [] := ⟨rfl, fun k hk => absurd hk (by simp)⟩
theorem issRow_snoc {base : Nat} {w : World} {cs : List Value} {xs : List Issue} (h : IssRow base w cs xs) (x : Issue) (vi vd : Value) (hn : I64 x.d ∧ I64 x.l ∧ U8 x.k) (hi : Sl (Fr base 205 zCP) 2 w vi x.items) (hd : Sl (Fr base 252 zGQ) 3 w vd x.dims) :
  IssRow base w (cs ++ [.int .i64 x.d, .int .i64 x.l, .int .u8 x.k, vi, vd]) (xs ++ [x]) := by
 obtain ⟨hl, h⟩ := h
 refine ⟨by simp [hl]; omega, fun k hk => ?_⟩
 simp only [List.length_append, List.length_cons, List.length_nil] at hk
 by_cases e : k < xs.length
 ·obtain ⟨h0, vi', vd', h1, h2, h3, h4, h5, h6, h7⟩ := h k e
  have ex : (xs ++ [x])[k] = xs[k] := List.getElem_append_left e
  refine ⟨by rw [ex]; exact h0, vi', vd', ?_, ?_, ?_, ?_, ?_, by rw [ex]; exact h6, by rw [ex]; exact h7⟩
  ·rw [List.getElem?_append_left (by omega), ex]; exact h1
  ·rw [List.getElem?_append_left (by omega), ex]; exact h2
  ·rw [List.getElem?_append_left (by omega), ex]; exact h3
  ·rw [List.getElem?_append_left (by omega)]; exact h4
  ·rw [List.getElem?_append_left (by omega)]; exact h5
 ·obtain rfl : k = xs.length := by omega
  have ex : (xs ++ [x])[xs.length] = x := by simp
  refine ⟨by rw [ex]; exact hn, vi, vd, ?_, ?_, ?_, ?_, ?_, by rw [ex]; exact hi, by rw [ex]; exact hd⟩
  ·rw [List.getElem?_append_right (by omega), ex, show xs.length * 5 - cs.length = 0 by omega]; rfl
  ·rw [List.getElem?_append_right (by omega), ex, show xs.length * 5 + 1 - cs.length = 1 by omega]; rfl
  ·rw [List.getElem?_append_right (by omega), ex, show xs.length * 5 + 2 - cs.length = 2 by omega]; rfl
  ·rw [List.getElem?_append_right (by omega), show xs.length * 5 + 3 - cs.length = 3 by omega]; rfl
  ·rw [List.getElem?_append_right (by omega), show xs.length * 5 + 4 - cs.length = 4 by omega]; rfl
theorem zLA {base : Nat} {w w' : World} {cs : List Value} {xs : List Issue} (hi : zHM base 205 w w') (hd : zHM base 252 w w') (h : IssRow base w cs xs) : IssRow base w' cs xs := by
 obtain ⟨hl, h⟩ := h
 refine ⟨hl, fun k hk => ?_⟩
 obtain ⟨h0, vi', vd', h1, h2, h3, h4, h5, h6, h7⟩ := h k hk
 exact ⟨h0, vi', vd', h1, h2, h3, h4, h5, zLN zKG hi h6, zLN zMX hd h7⟩
theorem issRow_sl {base base' : Nat} {w : World} {cs : List Value} {xs : List Issue} {v : Value} (h : IssRow base w cs xs) (hown : w.ownsRow base' 107 5 v xs.length cs) : Sl (Fr base' 107 (zED base)) 5 w v xs := by
 refine zMS ?_ hown
 have hown' := hown
 obtain ⟨hl, h⟩ := h
 rcases hown.2 with ⟨rfl, hn0⟩ | ⟨g, cap, cur, rfl, _, _, hc, hcm, _⟩
 ·exact ⟨none, 0, by rw [hn0], by omega, fun k hk => by omega⟩
 ·refine ⟨some ⟨g, 0, none⟩, cap, rfl, by unfold maxLen at hcm; omega, fun k hk => ⟨g, 0, rfl, ?_⟩⟩
  obtain ⟨h0, vi', vd', h1, h2, h3, h4, h5, h6, h7⟩ := h k hk
  have key : ∀ j u, cs[j]? = some u → zJ w g j u := fun j u hj => by
   have := hown'.cells (g := g) rfl j u hj
   rw [zBP] at this
   exact this
  rw [Nat.zero_add]
  exact ⟨⟨key _ _ h1, key _ _ h2, key _ _ h3⟩, h0, vi', vd', key _ _ h4, key _ _ h5, h6, h7⟩
section
variable {P : Program}
theorem zFN (w : World) (t ty e : TypeId) (i : TypeInfo) (ht : P.underlying t = some (.slice e)) (hi : P.info? e = some i) (g : Nat) (a : Option Addr) (c : Nat) :
  (Builtin.append_ #[t, t] ty #[.slice (some ⟨g, 0, none⟩) 0 0, .slice a 0 c]).run P w = .ok (.slice (some ⟨g, 0, none⟩) 0 0) w := by
 cases a with
 | none => simp [Builtin.append_, run_underlying ht, sizeOf, typeInfo, hi, Builtin.lenOf, Builtin.firstCells, storeCells]
 | some ad =>
   have := run_append_room_cells (P := P) w t ty e i ht hi g 0 0 0 ad 0 c [] (by simp) (fun j u h => by simp at h) (fun u h => by simp at h) (by omega) (fun j h => by simp at h) (fun j h => by simp at h)
   simpa [World.setCells] using this
theorem zIE {o : Oper} {a : Act} {w : World} (s x : Operand) (t : TypeId) (ho : o.op = .call { callee := .builtin .append, args := #[s, x], argTypes := #[t, t] })
  (e : TypeId) (i : TypeInfo) (z : Value) (sz bytes : Nat) (ht : P.underlying t = some (.slice e)) (hi : P.info? e = some i) (hz : i.zero = some z) (hsize : i.size = sz) (hby : i.bytes = bytes) (hzs : z.cells.size = sz) (hsz : 0 < sz) (hby2 : bytes ≤ 1000)
  {α : Type} {E : World → Nat → Nat → α → Prop} (hC : zKY E sz) (hE : zFD E sz) (v0 v : Value) (xs : List α) (hs : a.eval s = v0) (hv0 : ∃ g, v0 = .slice (some ⟨g, 0, none⟩) 0 0) (hx : a.eval x = v) (hsl : Sl E sz w v xs) (hn : xs.length ≤ 100000) (base : Nat) (hbase : base ≤ w.heap.size) :
  o.grows P a w (fun u w' => Sl (Fr base e E) sz w' u xs) := by
 obtain ⟨g, rfl⟩ := hv0
 by_cases hx0 : xs = []
 ·subst hx0
  obtain ⟨a', cap, rfl, _⟩ := zD hsl
  have hrun := zFN (P := P) w t o.type e i ht hi g a' cap
  unfold Oper.grows
  simp only [List.length_nil] at hx
  simp [execOp, ho, resolve, invoke, builtin, hs, hx, hrun, Result.andThen]
  exact ⟨br_, zGS _ _ _ _ _⟩
 ·obtain ⟨a', cap, rfl, _⟩ := zD hsl
  obtain ⟨_, hX⟩ := zZ hsl
  obtain ⟨b, off, hh, _⟩ := hX 0 (List.length_pos_iff.2 hx0)
  cases hh
  have hEE : ∀ k (hk : k < xs.length), E w b (off + k * sz) xs[k] := fun k hk => by
   obtain ⟨b', off', hh, he⟩ := hX k hk
   cases hh
   exact he
  obtain ⟨news, hl, hc, h1⟩ := zNE hE xs hEE
  have hpos := List.length_pos_iff.2 hx0
  obtain ⟨v', w', hrun, r1, r2⟩ := run_append_arg_grows (P := P) w t o.type e i z sz bytes ht hi hz hsize hby hzs hsz ⟨g, 0, none⟩ 0 0 [] (by simp) (fun j u hj => by simp at hj) ⟨b, off, none⟩ xs.length cap news hl (fun j u hj => by rw [Addr.add_lit]; exact hc j u hj)
   (by omega) (by unfold maxLen; omega) (by
    have : (0 + xs.length) * bytes ≤ 100000 * 1000 := Nat.mul_le_mul (by omega) hby2
    omega)
  have hb : Below w.heap.size w w' := (Below.refl _ w).grown r2 (Nat.le_refl _) (fun k e => by cases e)
  rw [Nat.zero_add, List.nil_append] at r1
  unfold Oper.grows
  simp [execOp, ho, resolve, invoke, builtin, hs, hx, hrun, Result.andThen]
  have hs' := zIF hC hb hEE hl hc r1
  exact ⟨hb, zEF hbase (zMS hs' r1)⟩
theorem zPF {o : Oper} {a : Act} {w : World} (s x : Operand) (t : TypeId) (ho : o.op = .call { callee := .builtin .append, args := #[s, x], argTypes := #[t, t] })
  (e : TypeId) (i : TypeInfo) (z : Value) (sz bytes : Nat) (ht : P.underlying t = some (.slice e)) (hi : P.info? e = some i) (hz : i.zero = some z) (hsize : i.size = sz) (hby : i.bytes = bytes) (hzs : z.cells.size = sz) (hsz : 0 < sz) (hby2 : bytes ≤ 1000)
  {α : Type} {E : World → Nat → Nat → α → Prop} (hC : zKY E sz) (hE : zFD E sz) (v0 v : Value) (xs : List α) (hs : a.eval s = v0) (hv0 : ∃ g, v0 = .slice (some ⟨g, 0, none⟩) 0 0) (hx : a.eval x = v) (hsl : Sl E sz w v xs) (hn : xs.length ≤ 100000) (base : Nat) (hbase : base ≤ w.heap.size)
  (hown0 : w.ownsRow base e sz v0 0 []) : o.grows P a w (fun u w' => New E sz e base w' u xs ∧ ∃ g cap, u = .slice (some ⟨g, 0, none⟩) xs.length cap) := by
 obtain ⟨g, rfl⟩ := hv0
 by_cases hx0 : xs = []
 ·subst hx0
  obtain ⟨a', cap, rfl, _⟩ := zD hsl
  have hrun := zFN (P := P) w t o.type e i ht hi g a' cap
  unfold Oper.grows
  simp only [List.length_nil] at hx
  simp [execOp, ho, resolve, invoke, builtin, hs, hx, hrun, Result.andThen]
  exact ⟨br_, ⟨zGS _ _ _ _ _, _, hown0⟩, g, 0, rfl⟩
 ·obtain ⟨a', cap, rfl, _⟩ := zD hsl
  obtain ⟨_, hX⟩ := zZ hsl
  obtain ⟨b, off, hh, _⟩ := hX 0 (List.length_pos_iff.2 hx0)
  cases hh
  have hEE : ∀ k (hk : k < xs.length), E w b (off + k * sz) xs[k] := fun k hk => by
   obtain ⟨b', off', hh, he⟩ := hX k hk
   cases hh
   exact he
  obtain ⟨news, hl, hc, h1⟩ := zNE hE xs hEE
  have hpos := List.length_pos_iff.2 hx0
  obtain ⟨v', w', hrun, r1, r2⟩ := run_append_arg_grows (P := P) w t o.type e i z sz bytes ht hi hz hsize hby hzs hsz ⟨g, 0, none⟩ 0 0 [] (by simp) (fun j u hj => by simp at hj) ⟨b, off, none⟩ xs.length cap news hl (fun j u hj => by rw [Addr.add_lit]; exact hc j u hj)
   (by omega) (by unfold maxLen; omega) (by
    have : (0 + xs.length) * bytes ≤ 100000 * 1000 := Nat.mul_le_mul (by omega) hby2
    omega)
  have hb : Below w.heap.size w w' := (Below.refl _ w).grown r2 (Nat.le_refl _) (fun k e => by cases e)
  rw [Nat.zero_add, List.nil_append] at r1
  unfold Oper.grows
  simp [execOp, ho, resolve, invoke, builtin, hs, hx, hrun, Result.andThen]
  refine ⟨hb, ⟨zIF hC hb hEE hl hc r1, news, hl, ?_⟩, ?_⟩
  ·rcases r1.2 with h | ⟨g', cap', cur, h1, h2, h3⟩
   ·exact .inl h
   ·exact .inr ⟨g', cap', cur, h1, Nat.le_trans hbase h2, h3⟩
  ·rcases r1.2 with h | ⟨g', cap', cur, h1, h2, h3⟩
   ·omega
   ·exact ⟨g', cap', h1⟩
end
end Go.Proofs.YtpolpdegpbahiaaGreatDoor
