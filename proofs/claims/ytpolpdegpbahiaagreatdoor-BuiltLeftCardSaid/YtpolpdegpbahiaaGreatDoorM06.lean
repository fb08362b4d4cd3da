/- The reference's greatest letter, parts, and reports. -/
import Derived.Test.YtpolpdegpbahiaaGreatDoorM01
import Derived.Test.YtpolpdegpbahiaaGreatDoorM03
import Derived.Test.YtpolpdegpbahiaaGreatDoorM05
set_option linter.all false
set_option maxRecDepth 100000
set_option maxHeartbeats 12800000

namespace Go.Proofs.YtpolpdegpbahiaaGreatDoor
section
open Go.RowKit
def zFI (N : List Note) : Nat → Nat
 | 0 => 0
 | k + 1 => zFI N k + (match N[k]? with | none => 0 | some x => if x.sg = 1 then 1 else 0)
theorem openTo_le (N : List Note) (k : Nat) : zFI N k ≤ k := by
 induction k with
 | zero => simp [zFI]
 | succ k ih =>
   simp only [zFI]
   split
   ·omega
   ·split <;> omega
theorem zLS (N : List Note) (k : Nat) (h : k < N.length) : zFI N (k + 1) = zFI N k + if N[k].sg = 1 then 1 else 0 := by
 simp only [zFI, List.getElem?_eq_getElem h]
def zDS (R : List Issue) (N : List Note) : Prop := N.length ≤ 12 ∧ (∀ k, (h : k < N.length) → NoteOk R N k N[k]) ∧ zFI N N.length ≤ 5
theorem notes03 (w : World) (vr vn : Value) (R : List Issue) (N : List Note) (hr : Sl zAU 5 w vr R) (hn : Sl zBM 10 w vn N) :
  Calls Tryz.prog 113 #[.agg #[vr, vn]] w (zAK (zDS R N) w) := by
 obtain ⟨hb1, B1⟩ := zAZ w #[vr, vn] 27
 have c0 := B1 0 vr rfl
 have c1 := B1 1 vn rfl
 clear B1
 obtain ⟨an, capn, rfl, hmn⟩ := zD hn
 obtain ⟨ar, capr, rfl, hmr⟩ := zD hr
 have hn1 := zI zS hb1 hn
 have hr1 := zI zP hb1 hr
 have C0 := Lib.hid c0
 have C1 := Lib.hid c1
 clear hn hr
 unfold zJ at c1
 by_cases h12 : 12 < N.length
 ·go_enter Tryz.func113, Tryz.ntmps113
  go_wp2
  go_ret
  exact zAK.f (fun h => by have := h.1; omega) hb1
 go_enter Tryz.func113, Tryz.ntmps113
 go_wp2
 clear c0 c1
 generalize w.alloc _ = w1 at *
 go_loopw [3, 4] (fun o i wr => ∃ k : Nat, i = .int .i64 k ∧ k ≤ N.length ∧ o = .int .i64 (zFI N k : Nat) ∧ Below w1.heap.size w1 wr ∧ ∀ j, j < k → (h : j < N.length) → NoteOk R N j N[j]) (fun _ i _ => N.length - (intOf i).toNat)
 case atStart => exact ⟨0, rfl, by omega, rfl, Below.refl _ _, fun j hj => absurd hj (by omega)⟩
 case round =>
  obtain ⟨k, rfl, hk, rfl, hb, hall⟩ := hrel
  have HALL := Lib.hid hall
  clear hall
  have hol := openTo_le N k
  have e0 := zC hb C0.out
  have e1 := zC hb C1.out
  unfold zJ at e0 e1
  by_cases hlt : k < N.length
  ·have hn2 := zI zS hb hn1
   have hos := Lib.hid (zLS N k hlt)
   go_wp2_with fail
   refine (note03 _ _ _ R N (zI zP hb hr1) hn2 k hlt).mono ?_
   intro e w2 hh
   rcases hh.both with ⟨hok, rfl, hb2⟩ | ⟨hok, rfl, hb2⟩
   case inr =>
    have HOK := Lib.hid hok
    clear hok hh
    go_wp2
    go_ret
    exact zAK.f (fun h => HOK.out (h.2.1 k hlt)) (zA hb1 (zA hb hb2))
   have HOK := Lib.hid hok
   have hb3 := zA hb hb2
   have e1 := zC hb3 C1.out
   obtain ⟨b, off, rfl, ⟨_, _, p2, _⟩, _⟩ := (zZ (zI zS hb3 hn1)).2 k hlt
   clear hok hh hn2
   unfold zJ at e1 p2
   generalize hx : N[k] = x at *
   have HX := Lib.hid hx
   clear hx
   generalize zFI N k = m at *
   by_cases hs : (x.sg == 1) = true
   ·go_wp2
    go_roundw
    case rel => exact ⟨k + 1, by go_num, by omega, by rw [hos.out, if_pos (by simpa using hs)]; go_num, hb3, zAO _ k HALL.out (fun _ => by rw [HX.out]; exact HOK.out)⟩
    case measure => simp [intOf]; omega
   ·have hs' : (x.sg == 1) = false := by simpa using hs
    go_wp2
    go_roundw
    case rel => exact ⟨k + 1, by go_num, by omega, by rw [hos.out, if_neg (by simpa using hs')]; rfl, hb3, zAO _ k HALL.out (fun _ => by rw [HX.out]; exact HOK.out)⟩
    case measure => simp [intOf]; omega
  ·have hkn : k = N.length := by omega
   have HK := Lib.hid hkn
   clear hkn
   by_cases h5 : zFI N k ≤ 5
   ·generalize hm : zFI N k = m at *
    have HM := Lib.hid hm
    clear hm
    have h5' : (m : Int) ≤ 5 := by omega
    go_wp2
    go_ret
    exact zAK.t ⟨by omega, fun j hj => HALL.out j (by rw [HK.out]; exact hj) hj, by rw [← HK.out, HM.out]; exact h5⟩ (zA hb1 hb)
   ·generalize hm : zFI N k = m at *
    have HM := Lib.hid hm
    clear hm
    have h5' : ¬ (m : Int) ≤ 5 := by omega
    go_wp2
    go_ret
    exact zAK.f (fun h => by have := h.2.2; rw [← HK.out, HM.out] at this; omega) (zA hb1 hb)
open Classical in
noncomputable def zX (R : List Issue) (N : List Note) : Int := if zAC R ≠ 0 then zAC R else if zDS R N then 0 else 30
theorem check03 (w : World) (vr vn : Value) (R : List Issue) (N : List Note) (hr : Sl zAU 5 w vr R) (hn : Sl zBM 10 w vn N) :
  Calls Tryz.prog 70 #[.agg #[vr, vn]] w fun e w' => e = .returned (.int .i64 (zX R N)) ∧ Below w.heap.size w w' := by
 obtain ⟨hb1, B1⟩ := zAZ w #[vr, vn] 27
 have c0 := B1 0 vr rfl
 have c1 := B1 1 vn rfl
 clear B1
 have hn1 := zI zS hb1 hn
 have hr1 := zI zP hb1 hr
 have C0 := Lib.hid c0
 have C1 := Lib.hid c1
 clear hn hr
 unfold zJ at c0
 go_enter Tryz.func70, Tryz.ntmps70
 go_wp2_with fail
 clear c0 c1
 generalize w.alloc _ = w1 at *
 refine (check02 _ _ R hr1).mono ?_
 rintro e w2 ⟨rfl, hb2⟩
 have hb3 := zA hb1 hb2
 have e0 := zC hb2 C0.out
 have e1 := zC hb2 C1.out
 have hn2 := zI zS hb2 hn1
 have hr2 := zI zP hb2 hr1
 have k1 : Hid (zAC R ≠ 0 → zX R N = zAC R) := fun h => by unfold zX; rw [if_pos h]
 have k2 : Hid (¬ zAC R ≠ 0 → zDS R N → zX R N = 0) := fun h h' => by unfold zX; rw [if_neg h, if_pos h']
 have k3 : Hid (¬ zAC R ≠ 0 → ¬ zDS R N → zX R N = 30) := fun h h' => by unfold zX; rw [if_neg h, if_neg h']
 clear hb1 hb2 hn1 hr1 C0 C1
 unfold zJ at e0 e1
 generalize zAC R = c at *
 by_cases hc : (c != 0) = true
 ·go_wp2
  go_ret
  exact ⟨zBT (k1.out (by simpa using hc)).symm, hb3⟩
 ·have hc' : (c != 0) = false := by simpa using hc
  go_wp2_with fail
  refine (notes03 _ _ _ R N hr2 hn2).mono ?_
  intro e w3 hh
  rcases hh.both with ⟨hok, rfl, hb4⟩ | ⟨hok, rfl, hb4⟩
  ·have HOK := Lib.hid hok
   clear hok hh
   go_wp2
   go_ret
   exact ⟨zBT (k2.out (by simpa using hc') HOK.out).symm, zA hb3 hb4⟩
  ·have HOK := Lib.hid hok
   clear hok hh
   go_wp2
   go_ret
   exact ⟨zBT (k3.out (by simpa using hc') HOK.out).symm, zA hb3 hb4⟩
end
section
open Go.RowKit
def zIX (R : List Issue) (d : Int) : Nat → Int
 | 0 => 0
 | k + 1 => match R[k]? with
   | none => zIX R d k
   | some x => if x.d = d then max (zIX R d k) x.l else zIX R d k
def zLH (R : List Issue) (d : Int) : Int := zIX R d R.length
theorem lastTo_succ (R : List Issue) (d : Int) (k : Nat) (h : k < R.length) : zIX R d (k + 1) = if R[k].d = d then max (zIX R d k) R[k].l else zIX R d k := by
 simp only [zIX, List.getElem?_eq_getElem h]
theorem zNA (w : World) (v : Value) (R : List Issue) (d : Int) (h : Sl zAU 5 w v R) :
  Calls Tryz.prog 114 #[.agg #[v], .int .i64 d] w fun e w' => e = .returned (.int .i64 (zLH R d)) ∧ Below w.heap.size w w' := by
 obtain ⟨hb1, B1⟩ := zAZ w #[v] 24
 have c0 := B1 0 v rfl
 clear B1
 obtain ⟨a, cap, rfl, hm⟩ := zD h
 have h1 := zI zP hb1 h
 clear h
 unfold zJ at c0
 go_enter Tryz.func114, Tryz.ntmps114
 go_wp2
 generalize w.alloc _ = w1 at *
 go_loop [5, 6] (fun n i => ∃ k : Nat, i = .int .i64 k ∧ k ≤ R.length ∧ n = .int .i64 (zIX R d k)) (fun _ i => R.length - (intOf i).toNat)
 case atStart => exact ⟨0, rfl, by omega, rfl⟩
 case round =>
  obtain ⟨k, rfl, hk, rfl⟩ := hrel
  by_cases hlt : k < R.length
  ·obtain ⟨b, off, rfl, ⟨q0, q1, _⟩, _⟩ := (zZ h1).2 k hlt
   have hs := Lib.hid (lastTo_succ R d k hlt)
   unfold zJ at q0 q1
   generalize R[k] = x at *
   generalize zIX R d k = m at *
   clear h1
   by_cases e1 : (x.d == d) = true
   ·by_cases e2 : x.l ≤ m
    ·have e2' : ¬ (x.l > m) := by omega
     go_wp2
     go_round
     case rel => exact ⟨k + 1, by go_num, by omega, by rw [hs.out, if_pos (by simpa using e1), Int.max_eq_left e2]⟩
     case measure => simp [intOf]; omega
    ·have e2' : x.l > m := by omega
     go_wp2
     go_round
     case rel => exact ⟨k + 1, by go_num, by omega, by rw [hs.out, if_pos (by simpa using e1), Int.max_eq_right (by omega)]⟩
     case measure => simp [intOf]; omega
   ·have e1' : (x.d == d) = false := by simpa using e1
    go_wp2
    go_round
    case rel => exact ⟨k + 1, by go_num, by omega, by rw [hs.out, if_neg (by simpa using e1')]⟩
    case measure => simp [intOf]; omega
  ·obtain rfl : k = R.length := by omega
   clear h1
   go_wp2
   go_ret
   exact ⟨rfl, hb1⟩
def zHO (R : List Issue) (d l : Int) : Prop := ∃ x, zDB R d l = some x ∧ 1 < x.k
theorem zJW (w : World) (v : Value) (R : List Issue) (d l : Int) (h : Sl zAU 5 w v R) :
  Calls Tryz.prog 45 #[.agg #[v], .int .i64 d, .int .i64 l] w (zAK (zHO R d l) w) := by
 obtain ⟨hb1, B1⟩ := zAZ w #[v] 24
 have c0 := B1 0 v rfl
 clear B1
 have h1 := zI zP hb1 h
 clear h
 unfold zJ at c0
 go_enter Tryz.func45, Tryz.ntmps45
 go_wp2_with fail
 clear c0
 generalize w.alloc _ = w1 at *
 refine (find02 _ _ R d l h1).mono ?_
 rintro e w2 ⟨hb2, hf⟩
 rcases hf with ⟨x, vi, vd, hfx, rfl, hx⟩ | ⟨hfx, rfl⟩
 ·obtain ⟨ai, capi, rfl, _⟩ := zD hx.items
  obtain ⟨ad, capd, rfl, _⟩ := zD hx.dims
  have HF := Lib.hid hfx
  clear hx hfx
  by_cases hk : 1 < x.k
  ·go_wp2
   go_ret
   exact zAK.t ⟨x, HF.out, hk⟩ (zA hb1 (zA hb2 (zB _ _)))
  ·go_wp2
   go_ret
   show zAK (zHO R d l) w (Ending.returned (.bool (decide (1 < x.k)))) _
   rw [decide_eq_false (by omega)]
   exact zAK.f (fun h => by obtain ⟨y, hy, hky⟩ := h; rw [HF.out] at hy; cases hy; omega) (zA hb1 (zA hb2 (zB _ _)))
 ·have HF := Lib.hid hfx
  clear hfx
  go_wp2
  go_ret
  exact zAK.f (fun h => by obtain ⟨y, hy, hky⟩ := h; rw [HF.out] at hy; cases hy) (zA hb1 (zA hb2 (zB _ _)))
def zDF (R : List Issue) (ms : List Int) (x : Report) : Prop := In x.num 1 9999 ∧ In x.k 1 3 ∧ x.m ∈ ms ∧ zHO R x.d x.l
theorem zPS (w : World) (vr vn vm vh vs : Value) (b : Built) (x : Report) (h : BuiltAt w vr vn vm vh vs b) (hu : U8 x.k) :
  Calls Tryz.prog 115 #[.agg #[vr, vn, .int .i64 b.of, vm, vh, vs], .agg #[.int .i64 x.num, .int .i64 x.m, .int .i64 x.d, .int .i64 x.l, .int .u8 x.k]] w (zAK (zDF b.ns.reg b.ms x) w) := by
 obtain ⟨hb1, B1, B2⟩ := zDY w #[vr, vn, .int .i64 b.of, vm, vh, vs] #[.int .i64 x.num, .int .i64 x.m, .int .i64 x.d, .int .i64 x.l, .int .u8 x.k] 32 116
 have c0 := B1 0 vr rfl
 have c2 := B1 3 vm rfl
 have x1 := B2 1 (.int .i64 x.m) rfl
 have x2 := B2 2 (.int .i64 x.d) rfl
 have x3 := B2 3 (.int .i64 x.l) rfl
 have x4 := B2 4 (.int .u8 x.k) rfl
 clear B1 B2
 have hr1 := zI zP hb1 h.reg
 have hm1 := zI zN hb1 h.ms
 clear h
 obtain ⟨hu0, hu1⟩ := hu
 unfold zJ at c0 c2 x1 x2 x3 x4
 go_enter Tryz.func115, Tryz.ntmps115
 go_wp2_with fail
 generalize (w.alloc _).alloc _ = w1 at *
 refine (within08 _ _ _ _).mono ?_
 intro e w2 hh
 rcases hh.both with ⟨h1, rfl, rfl⟩ | ⟨h1, rfl, rfl⟩
 case inr => go_wp2; go_ret; exact zAK.f (fun h => h1 h.1) hb1
 clear hh
 go_wp2_with fail
 refine (within08 _ _ _ _).mono ?_
 intro e w2 hh
 rcases hh.both with ⟨h2, rfl, rfl⟩ | ⟨h2, rfl, rfl⟩
 case inr => go_wp2; go_ret; exact zAK.f (fun h => h2 h.2.1) hb1
 clear hh
 go_wp2_with fail
 refine (zLY _ _ b.ms x.m hm1).mono ?_
 rintro e w2 ⟨rfl, rfl⟩
 by_cases hin : x.m ∈ b.ms
 ·have hge := idxI_in _ _ hin
  have HIN := Lib.hid hin
  clear hin
  generalize zJA b.ms x.m = ix at *
  go_wp2_with fail
  refine (zJW _ _ b.ns.reg x.d x.l hr1).mono ?_
  intro e w2 hh
  rcases hh.both with ⟨h3, rfl, hb2⟩ | ⟨h3, rfl, hb2⟩
  ·clear hh
   have H3 := Lib.hid h3
   clear h3
   go_wp2
   go_ret
   exact zAK.t ⟨h1, h2, HIN.out, H3.out⟩ (zA hb1 hb2)
  ·clear hh
   have H3 := Lib.hid h3
   clear h3
   go_wp2
   go_ret
   exact zAK.f (fun h => H3.out h.2.2.2) (zA hb1 hb2)
 ·have hge := zPJ _ _ hin
  have HIN := Lib.hid hin
  clear hin
  generalize zJA b.ms x.m = ix at *
  go_wp2
  go_ret
  exact zAK.f (fun h => HIN.out h.2.2.1) hb1
end
end Go.Proofs.YtpolpdegpbahiaaGreatDoor
