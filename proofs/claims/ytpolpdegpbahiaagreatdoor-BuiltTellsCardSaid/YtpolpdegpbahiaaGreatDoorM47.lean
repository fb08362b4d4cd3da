/- The program: the machines at which something may change, sorted, no number twice. -/
import Derived.Shelf.SlGeneric
import Derived.Shelf.Sort.Plain
import Derived.Shelf.Slices.CompactI
import Derived.Shelf.SlicesE.DeleteFunc
import Derived.Test.YtpolpdegpbahiaaGreatDoorProg
import Derived.Test.YtpolpdegpbahiaaGreatDoorM27
import Derived.Test.YtpolpdegpbahiaaGreatDoorM38
import Derived.Test.YtpolpdegpbahiaaGreatDoorM44
set_option linter.all false
set_option maxRecDepth 100000
set_option maxHeartbeats 12800000

namespace Go.Proofs.YtpolpdegpbahiaaGreatDoor
open Tryz
open Go.RowKit Go.Shelf
theorem ints_rows {w0 w : World} {base n : Nat} {v : Value} {cs : List Value} {A : List (List Int)} (hown : w.ownsRow base 28 1 v n cs) (hn : A.length = n) (h : ∀ j (hj : j < A.length), ∃ u, cs[j]? = some u ∧ Sl zAJ 1 w0 u A[j]) (hb : Below w0.heap.size w0 w) : Sl zKW 1 w v A := by
 rcases hown.2 with ⟨rfl, h0⟩ | ⟨g, cap, cur, rfl, _, _, hc, hcm, _⟩
 ·exact ⟨none, 0, by rw [hn, h0], by omega, fun k hk => by omega⟩
 ·refine ⟨some ⟨g, 0, none⟩, cap, by rw [hn], by unfold maxLen at hcm; omega, fun k hk => ?_⟩
  obtain ⟨u, hu, hs⟩ := h k hk
  refine ⟨g, 0, rfl, u, ?_, zI zN hb hs⟩
  have := hown.cells (g := g) rfl k u hu
  rw [zBP] at this
  unfold zJ
  rw [Nat.zero_add, Nat.mul_one]
  exact this
theorem signed_built (w : World) (vr vn vm vh vs : Value) (b : Built) (hA : BuiltArg w vr vn vm vh vs b) (hK : KindsAt w) :
  Calls prog 16 #[.agg #[vr, vn, .int .i64 b.of, vm, vh, vs]] w fun e w' => ∃ u, e = .returned (.tuple #[u, .int .i64 (zM b)]) ∧ Sl zKW 1 w' u (signedL b) ∧ Below w.heap.size w w' := by
 obtain ⟨i0, hif, iz0, iz1, iz2⟩ := info_parts zPT
 obtain ⟨ar, cr, rfl, _⟩ := zD hA.at_.reg
 obtain ⟨an, cn, rfl, _⟩ := zD hA.at_.notes
 obtain ⟨am, cm, rfl, _⟩ := zD hA.at_.ms
 obtain ⟨ah, ch, rfl, _⟩ := zD hA.at_.hs
 obtain ⟨as', cs', rfl, _⟩ := zD hA.at_.rs
 have hb1 := zB w (.cells #[.slice ar b.ns.reg.length cr, .slice an b.ns.notes.length cn, .int .i64 b.of, .slice am b.ms.length cm, .slice ah b.hs.length ch, .slice as' b.rs.length cs'] 32)
 have hbox := Lay.new w 32 #[.slice ar b.ns.reg.length cr, .slice an b.ns.notes.length cn, .int .i64 b.of, .slice am b.ms.length cm, .slice ah b.hs.length ch, .slice as' b.rs.length cs']
 have HA := zF (hA.ext hb1)
 have HK := zF (hK.ext hb1)
 have c0 := hbox.cell 0 _ rfl
 have c1 := hbox.cell 1 _ rfl
 have c2 := hbox.cell 2 _ rfl
 have c3 := hbox.cell 3 _ rfl
 have c4 := hbox.cell 4 _ rfl
 have c5 := hbox.cell 5 _ rfl
 clear hA hK hbox
 go_enter func16, ntmps16
 go_wp2_with fail
 clear c0 c1 c2 c3 c4 c5
 generalize w.alloc _ = w1 at *
 refine (open_built w1 _ _ _ _ _ b HA.out HK.out).mono ?_
 rintro e w2 ⟨hb2, v, rfl, ⟨a, n, c, rfl⟩, hF⟩
 have HB2 := zF (zA hb1 hb2)
 have HA2 := zF (HA.out.ext hb2)
 clear hb1 hb2 HA HK
 by_cases hz : zM b = 0
 case neg =>
  have hne : (zM b != 0) = true := by simpa using hz
  have hs : Hid (signedL b = []) := by unfold Hid signedL; rw [if_neg hz]
  clear hz hF
  go_wp2
  go_ret2
  exact ⟨_, rfl, by rw [hs.out]; exact zGS _ _ _ _ _, HB2.out⟩
 case pos =>
  have hs : Hid (signedL b = zBH b) := by unfold Hid signedL; rw [if_pos hz]
  obtain ⟨n1, fs, hFi, h32⟩ := hF hz
  have hl := finds_sl hFi.row
  obtain ⟨a', c', he, _⟩ := zD hl
  cases he
  have HL := zF hl
  have HF := zF hFi
  have HZ := zF hz
  rw [hz]
  clear hF hl hFi hz
  generalize zBH b = A at *
  go_wp2
  go_loopw [6, 19] (fun o q wr => ∃ (k : Nat) (cs : List Value), q = .int .i64 k ∧ k ≤ fs.length ∧ Hid (wr.ownsRow w2.heap.size 28 1 o k cs) ∧ Hid (∀ j, j < k → ∀ hj : j < A.length, ∃ u, cs[j]? = some u ∧ Sl zAJ 1 w2 u A[j]) ∧ Hid (Below w2.heap.size w2 wr)) (fun _ q _ => fs.length - (intOf q).toNat)
  case atStart => exact ⟨0, [], rfl, by omega, zF (World.ownsRow_nil _ _ _ _), zF (fun j hj => absurd hj (by omega)), zF (br_)⟩
  case round =>
   obtain ⟨k, cs, rfl, hk, HO, HX, HB⟩ := hrel
   by_cases hlt : k < fs.length
   case neg =>
    obtain rfl : k = fs.length := by omega
    have hsl := ints_rows HO.out HF.out.len.symm (fun j hj => HX.out j (by rw [HF.out.len]; exact hj) hj) HB.out
    obtain ⟨ao, co, rfl, _⟩ := zD hsl
    have HSL := zF hsl
    clear hsl
    go_wp2
    go_ret2
    exact ⟨_, by rw [HZ.out]; rfl, by rw [hs.out]; exact HSL.out, zA HB2.out HB.out⟩
   case pos =>
    have hkA : k < A.length := by have := HF.out.len; omega
    obtain ⟨bf, of', rfl, c0, c1⟩ := (zZ (zI stays_fnd HB.out HL.out)).2 k hlt
    obtain ⟨vz, L, hfo, _⟩ := (HF.out.at_ k hlt hkA).found HA2.out.at_
    obtain ⟨vhas, hlay, _⟩ := hfo.site.box
    have hsz := hfo.site.sl
    obtain ⟨az, cz, rfl, _⟩ := zD hsz
    obtain ⟨zl, hzl⟩ : ∃ z, A[k].length = z := ⟨_, rfl⟩
    rw [hzl] at hlay hsz
    have HSZ : Hid (∀ hj : k < A.length, Sl zAJ 1 w2 (.slice az zl cz) A[k]) := fun _ => hsz
    clear hzl hfo
    generalize fs[k] = f at *
    have hba := zB wr (.cells #[.pointer (some ⟨f.p, 0, none⟩), .slice f.a f.n f.c] 95)
    have LF := Lay.new wr 95 #[.pointer (some ⟨f.p, 0, none⟩), .slice f.a f.n f.c]
    have z0 := LF.cell 0 _ rfl
    have z6 := (hlay.ext (zA HB.out hba)).cell 6 _ rfl
    have hb2 := zB (wr.alloc (.cells #[.pointer (some ⟨f.p, 0, none⟩), .slice f.a f.n f.c] 95)) (.cells #[.slice az zl cz] 28)
    have HOA := zF (zAA hb2 (zAA hba HO.out))
    have HBA := zF (zA HB.out (zA hba hb2))
    have HCN := zF (cell_one_new (wr.alloc (.cells #[.pointer (some ⟨f.p, 0, none⟩), .slice f.a f.n f.c] 95)) (.slice az zl cz) 28)
    rw [World.size_alloc] at HCN
    clear hlay LF hba hb2 HO hsz
    unfold zJ at c0 c1
    go_wp2_with (at_builtin; refine wpList_append_own _ rfl _ _ 56 rfl w2.heap.size 28 i0 (.slice none 0 0) 1 24 underlying56 hif iz0 iz1 iz2 rfl (by decide) _ _ _ rfl HOA.out ⟨wr.heap.size + 1, 0, none⟩ 1 1 [.slice az zl cz] rfl rfl HCN.out (by simp [Value.oneCell']) (by unfold maxLen; omega) (by omega) HBA.out.size ?_; intro v' w4 hown' hgrow _)
    have HB4 := zF (HBA.out.grown hgrow HBA.out.size (fun r e => (HOA.out.lt r e).1))
    have HO4 := zF hown'
    have hcl := HOA.out.1
    have HX4 : Hid (∀ j, j < k + 1 → ∀ hj : j < A.length, ∃ u, (cs ++ [.slice az zl cz])[j]? = some u ∧ Sl zAJ 1 w2 u A[j]) := fun j hj hjA => by
     by_cases e : j = k
     ·subst e
      exact ⟨_, by rw [List.getElem?_append_right (by omega), show j - cs.length = 0 by omega]; rfl, HSZ.out hjA⟩
     ·obtain ⟨u, h1, h2⟩ := HX.out j (by omega) hjA
      exact ⟨u, by rw [List.getElem?_append_left (by omega)]; exact h1, h2⟩
    clear hown' hgrow HX HBA HOA hcl HCN
    go_wp2
    go_roundw
    ·exact ⟨k + 1, _, by go_num, by omega, HO4, HX4, HB4⟩
    ·simp [intOf]; omega
end Go.Proofs.YtpolpdegpbahiaaGreatDoor
namespace Go.Proofs
open Go.Shelf
def Tryz.lays133_ren : Go.Shelf.Ren := ⟨fun | 189 => 133 | 125 => 171 | 257 => 170 | 128 => 205 | 129 => 206 | 294 => 196 | 295 => 197 | 296 => 198 | 297 => 199 | 298 => 200 | 299 => 201 | 216 => 202 | 300 => 203 | 301 => 204 | 328 => 217 | 329 => 218 | 330 => 219 | 331 => 220 | 332 => 221 | 215 => 191 | 343 => 226 | n => n, fun | 28 => 28 | 3 => 3 | 46 => 262 | 0 => 0 | 51 => 293 | 53 => 295 | 4 => 4 | 183 => 286 | 182 => 285 | 131 => 278 | 5 => 5 | 9 => 9 | 218 => 302 | 222 => 306 | 228 => 310 | 229 => 206 | n => n, fun | n => n⟩
theorem Tryz.lays133 : Go.Proofs.Lays.n189 Tryz.prog Tryz.lays133_ren := {
 mixed := by kernel_rfl
 f125 := Tryz.func171.trans (congrArg some (by kernel_rfl))
 f128 := Tryz.func205.trans (congrArg some (by kernel_rfl))
 f129 := Tryz.func206.trans (congrArg some (by kernel_rfl))
 f189 := Tryz.func133.trans (congrArg some (by kernel_rfl))
 f215 := Tryz.func191.trans (congrArg some (by kernel_rfl))
 f216 := Tryz.func202.trans (congrArg some (by kernel_rfl))
 f257 := Tryz.func170.trans (congrArg some (by kernel_rfl))
 f294 := Tryz.func196.trans (congrArg some (by kernel_rfl))
 f295 := Tryz.func197.trans (congrArg some (by kernel_rfl))
 f296 := Tryz.func198.trans (congrArg some (by kernel_rfl))
 f297 := Tryz.func199.trans (congrArg some (by kernel_rfl))
 f298 := Tryz.func200.trans (congrArg some (by kernel_rfl))
 f299 := Tryz.func201.trans (congrArg some (by kernel_rfl))
 f300 := Tryz.func203.trans (congrArg some (by kernel_rfl))
 f301 := Tryz.func204.trans (congrArg some (by kernel_rfl))
 f328 := Tryz.func217.trans (congrArg some (by kernel_rfl))
 f329 := Tryz.func218.trans (congrArg some (by kernel_rfl))
 f330 := Tryz.func219.trans (congrArg some (by kernel_rfl))
 f331 := Tryz.func220.trans (congrArg some (by kernel_rfl))
 f332 := Tryz.func221.trans (congrArg some (by kernel_rfl))
 f343 := Tryz.func226.trans (congrArg some (by kernel_rfl))
 t0 := Tryz.underlying0
 a0 := Tryz.isAgg0
 z0 := Tryz.sizeOf0
 v0 := Tryz.zeroValue0
 t3 := Tryz.underlying3
 a3 := Tryz.isAgg3
 z3 := Tryz.sizeOf3
 v3 := Tryz.zeroValue3
 t4 := Tryz.underlying4
 a4 := Tryz.isAgg4
 z4 := Tryz.sizeOf4
 v4 := Tryz.zeroValue4
 t5 := Tryz.underlying5
 a5 := Tryz.isAgg5
 z5 := Tryz.sizeOf5
 v5 := Tryz.zeroValue5
 t9 := Tryz.underlying9
 a9 := Tryz.isAgg9
 z9 := Tryz.sizeOf9
 v9 := Tryz.zeroValue9
 t28 := Tryz.underlying28
 a28 := Tryz.isAgg28
 z28 := Tryz.sizeOf28
 v28 := Tryz.zeroValue28
 t46 := Tryz.underlying262
 a46 := Tryz.isAgg262
 z46 := Tryz.sizeOf262
 v46 := Tryz.zeroValue262
 t51 := Tryz.underlying293
 a51 := Tryz.isAgg293
 z51 := Tryz.sizeOf293
 v51 := Tryz.zeroValue293
 t53 := Tryz.underlying295
 a53 := Tryz.isAgg295
 z53 := Tryz.sizeOf295
 v53 := Tryz.zeroValue295
 t131 := Tryz.underlying278
 a131 := Tryz.isAgg278
 z131 := Tryz.sizeOf278
 v131 := Tryz.zeroValue278
 t182 := Tryz.underlying285
 a182 := Tryz.isAgg285
 z182 := Tryz.sizeOf285
 v182 := Tryz.zeroValue285
 t183 := Tryz.underlying286
 a183 := Tryz.isAgg286
 z183 := Tryz.sizeOf286
 v183 := Tryz.zeroValue286
 t218 := Tryz.underlying302
 a218 := Tryz.isAgg302
 z218 := Tryz.sizeOf302
 v218 := Tryz.zeroValue302
 t222 := Tryz.underlying306
 a222 := Tryz.isAgg306
 z222 := Tryz.sizeOf306
 v222 := Tryz.zeroValue306
 t228 := Tryz.underlying310
 a228 := Tryz.isAgg310
 z228 := Tryz.sizeOf310
 v228 := Tryz.zeroValue310
 t229 := Tryz.underlying206
 a229 := Tryz.isAgg206
 z229 := Tryz.sizeOf206
 v229 := Tryz.zeroValue206 }
def Tryz.lays180_ren : Go.Shelf.Ren := ⟨fun | 20 => 180 | n => n, fun | 22 => 28 | 3 => 3 | 4 => 4 | 0 => 0 | n => n, fun | n => n⟩
theorem Tryz.lays180 : Go.Proofs.Lays2.n20 Tryz.prog Tryz.lays180_ren := {
 mixed := by kernel_rfl
 f20 := Tryz.func180.trans (congrArg some (by kernel_rfl))
 t0 := Tryz.underlying0
 a0 := Tryz.isAgg0
 z0 := Tryz.sizeOf0
 v0 := Tryz.zeroValue0
 t3 := Tryz.underlying3
 a3 := Tryz.isAgg3
 z3 := Tryz.sizeOf3
 v3 := Tryz.zeroValue3
 t4 := Tryz.underlying4
 a4 := Tryz.isAgg4
 z4 := Tryz.sizeOf4
 v4 := Tryz.zeroValue4
 t22 := Tryz.underlying28
 a22 := Tryz.isAgg28
 z22 := Tryz.sizeOf28
 v22 := Tryz.zeroValue28
 i3 := by kernel_rfl }
def Tryz.lays181_ren : Go.Shelf.Ren := ⟨fun | 10 => 181 | 6 => 146 | n => n, fun | 22 => 28 | 23 => 3 | 25 => 137 | 3 => 3 | 4 => 4 | 0 => 0 | n => n, fun | n => n⟩
theorem Tryz.lays181 : Go.Proofs.SlLaysH.n10 Tryz.prog Tryz.lays181_ren := {
 mixed := by kernel_rfl
 f6 := ⟨Tryz.f146.name, by decide, Tryz.func146.trans (congrArg some (by kernel_rfl))⟩
 f10 := ⟨Tryz.f181.name, by decide, Tryz.func181.trans (congrArg some (by kernel_rfl))⟩
 t0 := Tryz.underlying0
 a0 := Tryz.isAgg0
 z0 := Tryz.sizeOf0
 v0 := Tryz.zeroValue0
 t3 := Tryz.underlying3
 a3 := Tryz.isAgg3
 z3 := Tryz.sizeOf3
 v3 := Tryz.zeroValue3
 t4 := Tryz.underlying4
 a4 := Tryz.isAgg4
 z4 := Tryz.sizeOf4
 v4 := Tryz.zeroValue4
 t22 := Tryz.underlying28
 a22 := Tryz.isAgg28
 z22 := Tryz.sizeOf28
 v22 := Tryz.zeroValue28
 a23 := Tryz.isAgg3
 z23 := Tryz.sizeOf3
 t25 := Tryz.underlying137
 a25 := Tryz.isAgg137
 z25 := Tryz.sizeOf137
 v25 := Tryz.zeroValue137 }
end Go.Proofs
namespace Go.Proofs.YtpolpdegpbahiaaGreatDoor
open Tryz
open Go.RowKit Go.Shelf
theorem compact_mem (d : Array Int) (m : Nat) (hm : m ≤ d.size) (x : Int) (h : x ∈ Lib.compactUpTo d m) : x ∈ d.toList := by
 unfold Lib.compactUpTo at h
 obtain ⟨j, hj, rfl⟩ := List.mem_map.1 h
 have h1 := List.mem_range.1 (List.mem_filter.1 hj).1
 show d[j]! ∈ d.toList
 rw [getElem!_pos d j (by omega)]
 exact Array.getElem_mem_toList (by omega)
theorem compact_len (d : Array Int) (m : Nat) : (Lib.compactUpTo d m).length ≤ m := by
 unfold Lib.compactUpTo
 rw [List.length_map]
 exact Nat.le_trans (List.length_filter_le _ _) (by rw [List.length_range]; exact Nat.le_refl _)
theorem own_world {w : World} {base g cap n : Nat} {cs : List Value} (h : w.ownsRow base 3 1 (.slice (some ⟨g, 0, none⟩) n cap) n cs) (m : Nat) (dk : List Int) (os : Array Obj) (hd : dk.length = n) :
  (sortWorld (Value.int .i64) w g 0 m dk.toArray os).ownsRow base 3 1 (.slice (some ⟨g, 0, none⟩) n cap) n (dk.map (Value.int .i64)) := by
 rcases h.2 with ⟨h0, _⟩ | ⟨g', cap', cur, h0, h1, hc, q1, q2, q3, _⟩
 ·cases h0
 ·cases h0
  refine ⟨by simp [hd], .inr ⟨g, cap, Go.Sort.putCells (Value.int .i64) 0 dk.toArray cur, rfl, h1, sortWorld_row _ _ _ _ _ _ _ _ _ hc, q1, q2, by simp [Go.Sort.putCells, q3], ?_⟩⟩
  rw [Nat.mul_one]
  have := putCells_take (Value.int .i64) dk.toArray cur n (by simpa using hd) (by omega)
  simpa using this
theorem own_holds {w : World} {base g cap n : Nat} {cs : List Int} (h : w.ownsRow base 3 1 (.slice (some ⟨g, 0, none⟩) n cap) n (cs.map (Value.int .i64))) : Go.Sort.Holds (Value.int .i64) w g 0 cs.toArray := fun j hj => by
 have hj' : j < cs.length := by simpa using hj
 rw [Nat.zero_add]
 refine ⟨?_, zFE h j⟩
 have := h.cells (g := g) rfl j (.int .i64 cs[j]) (by simp [hj'])
 rw [zBP] at this
 rw [this, getElem!_pos cs.toArray j (by simpa using hj')]
 simp
theorem own_pre {w : World} {base g cap n : Nat} {e : TypeId} {cs : List Value} (h : w.ownsRow base e 1 (.slice (some ⟨g, 0, none⟩) n cap) n cs) (k : Nat) (hk : k ≤ n) : w.ownsRow base e 1 (.slice (some ⟨g, 0, none⟩) k cap) k (cs.take k) := by
 rcases h.2 with ⟨h0, _⟩ | ⟨g', cap', cur, h0, h1, hc, q1, q2, q3, q4⟩
 ·cases h0
 ·cases h0
  refine ⟨by rw [List.length_take, h.1]; omega, .inr ⟨g, cap, cur, rfl, h1, hc, by omega, q2, q3, ?_⟩⟩
  rw [← q4, List.take_take]
  congr 1
  omega
theorem own_fits {w : World} {base g cap n : Nat} {e : TypeId} {cs : List Value} (h : w.ownsRow base e 1 (.slice (some ⟨g, 0, none⟩) n cap) n cs) : g < w.heap.size ∧ n ≤ cap ∧ base ≤ g := by
 rcases h.2 with ⟨h0, _⟩ | ⟨g', cap', cur, h0, h1, hc, q1, q2, q3, q4⟩
 ·cases h0
 ·cases h0
  exact ⟨(Array.getElem?_eq_some_iff.1 hc).1, q1, h1⟩
theorem marks1_gives (W : World) (x : Int) : FnGives prog 182 #[] #[.int .i64 x] (.bool (decide (999 < x))) W := by
 show Calls prog 182 #[.int .i64 x] W _
 go_enter func182, ntmps182
 go_wp2
 go_ret
 exact ⟨rfl, 0, rfl⟩
def markL (N : List Note) (k : Nat) : List Int := 1 :: (N.take k).flatMap fun x => [x.fr, x.to + 1]
theorem markL_succ (N : List Note) (k : Nat) (hk : k < N.length) : markL N (k + 1) = markL N k ++ [N[k].fr, N[k].to + 1] := by
 unfold markL
 rw [List.take_succ_eq_append_getElem hk, List.flatMap_append]
 rfl
theorem markL_len (N : List Note) (k : Nat) (hk : k ≤ N.length) : (markL N k).length = 2 * k + 1 := by
 unfold markL
 induction k with
 | zero => rfl
 | succ k ih =>
   have := ih (by omega)
   rw [List.take_succ_eq_append_getElem (by omega), List.flatMap_append]
   simp only [List.length_cons, List.length_append, List.flatMap_cons, List.flatMap_nil, List.length_nil] at this ⊢
   omega
theorem marks_note (w : World) (pf : Nat) (vr vn : Value) (R : List Issue) (N : List Note) (hF : FileAt w pf vr vn R N) (hN : Sl zBM 10 w vn N) (h12 : N.length ≤ 12) (hto : ∀ x ∈ N, I64 x.fr ∧ 0 ≤ x.to ∧ x.to ≤ 999) :
  Calls prog 144 #[.pointer (some ⟨pf, 0, none⟩)] w fun e w' => ∃ u L, e = .returned u ∧ Sl zAJ 1 w' u L ∧ L.length ≤ 25 ∧ Below w.heap.size w w' := by
 obtain ⟨i0, hif, iz0, iz1, iz2⟩ := info_parts zDM
 obtain ⟨vd, vo, O, hL, _, _, _⟩ := hF.is
 obtain ⟨an, capn, rfl, hmn⟩ := zD hN
 have HN := zF hN
 have HT := zF hto
 have hb1 := zB w (.cells #[.int .i64 1] 3)
 have c1 := (hL.ext hb1).cell 1 _ rfl
 have HB1 := zF hb1
 have hI : ∀ k, k ≤ N.length → ∀ x ∈ markL N k, I64 x := fun k _ x hx => by
  unfold markL at hx
  rcases List.mem_cons.1 hx with rfl | hx
  ·exact ⟨by omega, by omega⟩
  obtain ⟨y, hy, hx⟩ := List.mem_flatMap.1 hx
  have h1 := HT.out y (List.mem_of_mem_take hy)
  simp at hx
  rcases hx with rfl | rfl
  ·exact h1.1
  ·unfold I64; omega
 have HI := zF hI
 clear hF hL hN hto hb1 hI
 unfold zJ at c1
 go_enter func144, ntmps144
 go_wp2
 clear c1
 go_loopw [3, 13] (fun o q wr => ∃ j : Nat, q = .int .i64 j ∧ j ≤ N.length ∧ Hid (wr.ownsRow w.heap.size 3 1 o (2 * j + 1) ((markL N j).map (Value.int .i64))) ∧ Hid (Below w.heap.size w wr)) (fun _ q _ => N.length - (intOf q).toNat)
 case atStart => exact ⟨0, rfl, by omega, zF ⟨rfl, .inr ⟨w.heap.size, 1, #[.int .i64 1], rfl, Nat.le_refl _, zJF w _ _ rfl, by omega, by decide, rfl, rfl⟩⟩, HB1⟩
 case round =>
  obtain ⟨j, rfl, hj, HOWN, HB⟩ := hrel
  by_cases hlt : j < N.length
  ·obtain ⟨b, off, rfl, ⟨q0, q1, q2, q3, q4, q5, q6, q7, q8, q9⟩, _⟩ := noteCells HN.out HB.out j hlt
   have hnew := zF (congrArg (List.map (Value.int .i64)) (markL_succ N j hlt))
   have ht := HT.out N[j] (List.getElem_mem hlt)
   generalize N[j] = x at *
   have hx := (zAZ wr #[.int .i64 x.num, .int .i64 x.day, .int .u8 x.sg, .int .i64 x.d, .int .i64 x.l, .int .i64 x.fr, .int .i64 x.to, .int .i64 x.ca, .bool x.use, .int .u8 x.ways] 147).2
   have x5 := hx 5 _ rfl
   have x6 := hx 6 _ rfl
   clear hx
   obtain ⟨_, ht0, ht1⟩ := ht
   have hba := zA (zB wr (.cells #[.int .i64 x.num, .int .i64 x.day, .int .u8 x.sg, .int .i64 x.d, .int .i64 x.l, .int .i64 x.fr, .int .i64 x.to, .int .i64 x.ca, .bool x.use, .int .u8 x.ways] 147)) (zB _ (.cells #[.int .i64 x.fr, .int .i64 (x.to + 1)] 3))
   have HBA := zF (zA HB.out hba)
   have HOA := zF (zAA hba HOWN.out)
   have HCN := zF (cell_two_new (wr.alloc (.cells #[.int .i64 x.num, .int .i64 x.day, .int .u8 x.sg, .int .i64 x.d, .int .i64 x.l, .int .i64 x.fr, .int .i64 x.to, .int .i64 x.ca, .bool x.use, .int .u8 x.ways] 147)) (.int .i64 x.fr) (.int .i64 (x.to + 1)) 3)
   rw [World.size_alloc] at HCN
   clear hba
   unfold zJ at q0 q1 q2 q3 q4 q5 q6 q7 q8 q9 x5 x6
   go_wp2_with (at_builtin; refine wpList_append_own _ rfl _ _ 28 rfl w.heap.size 3 i0 (.int .i64 0) 1 8 underlying28 hif iz0 iz1 iz2 rfl (by decide) _ _ _ rfl HOA.out ⟨wr.heap.size + 1, 0, none⟩ 2 2 [.int .i64 x.fr, .int .i64 (x.to + 1)] rfl rfl HCN.out (by simp [Value.oneCell']) (by unfold maxLen; omega) (by omega) HBA.out.size ?_; intro v' w4 hown' hgrow _)
   have HB4 := zF (HBA.out.grown hgrow HBA.out.size (fun r e => (HOA.out.lt r e).1))
   have HO4 : Hid (w4.ownsRow w.heap.size 3 1 v' (2 * (j + 1) + 1) ((markL N (j + 1)).map (Value.int .i64))) := by
    rw [hnew.out, List.map_append]
    exact hown'
   clear hgrow hown' HOA HBA HOWN HB HCN
   go_wp2
   go_roundw
   ·exact ⟨j + 1, by go_num, by omega, HO4, HB4⟩
   ·simp [intOf]; omega
  ·obtain rfl : j = N.length := by omega
   have hlen := markL_len N N.length (Nat.le_refl _)
   obtain ⟨g, cap, rfl⟩ := zCT HOWN.out
   have hI := HI.out N.length (Nat.le_refl _)
   generalize markL N N.length = L at *
   have hown := HOWN.out
   rw [← hlen] at hown ⊢
   have HI2 := zF hI
   have H1 := zF hown
   have hsz : L.length ≤ 25 := by omega
   clear hI HOWN hown HI HN HT hlen
   have hst := Any.slices_Sort_int Tryz.lays133 g 0 cap L wr (own_holds H1.out) (own_fits H1.out).1 (Nat.lt_of_le_of_lt hsz (by decide))
   change Calls prog 133 _ _ _ at hst
   have HST := zF hst
   clear hst
   go_wp2_with fail
   refine HST.out.mono ?_
   rintro e w2 ⟨rfl, n2, os2, hw2⟩
   have hperm := List.mergeSort_perm L (fun x y => decide (x ≤ y))
   have hl2 := hperm.length_eq
   have hI2 : ∀ x ∈ L.mergeSort (fun x y => decide (x ≤ y)), I64 x := fun x hx => HI2.out x (hperm.mem_iff.1 hx)
   generalize L.mergeSort (fun x y => decide (x ≤ y)) = L2 at *
   have hw2' : w2 = sortWorld (Value.int .i64) wr g 0 n2 L2.toArray os2 := hw2
   have hown2 := own_world H1.out n2 L2 os2 hl2
   have hgr2 := zMI (Value.int .i64) wr g n2 L2.toArray os2
   rw [← hw2'] at hown2 hgr2
   rw [← hl2] at hown2 ⊢
   have H2 := zF hown2
   have HB2 := zF (HB.out.grown hgr2 HB.out.size (fun r e => by cases e; exact (own_fits H1.out).2.2))
   have HI3 := zF hI2
   have hsz2 : L2.length ≤ 25 := by omega
   clear hw2 hw2' hperm hl2 hown2 hgr2 H1 HB HI2 hI2 hsz
   have hcp := Any.slices_Compact_int Tryz.lays180 g 0 cap L2 w2 (own_holds H2.out) (Nat.le_trans hsz2 (by decide)) (own_fits H2.out).2.1
   change Calls prog 180 _ _ _ at hcp
   have HCP := zF hcp
   clear hcp
   go_wp2_with fail
   refine HCP.out.mono ?_
   rintro e w3 ⟨rfl, n3, hw3⟩
   have hcl : (Lib.compact L2).length ≤ L2.length := by have := compact_len L2.toArray L2.length; exact this
   have hcm : ∀ x ∈ Lib.compact L2, I64 x := fun x hx => HI3.out x (by have := compact_mem L2.toArray L2.length (by simp) x hx; simpa using this)
   generalize Lib.compact L2 = L3 at *
   have hw3' : w3 = sortWorld (Value.int .i64) w2 g 0 n3 (L3 ++ List.replicate (L2.length - L3.length) 0).toArray #[] := hw3
   have hown3 := own_pre (own_world H2.out n3 (L3 ++ List.replicate (L2.length - L3.length) 0) #[] (by simp; omega)) L3.length hcl
   rw [List.map_append, List.take_left' (by simp)] at hown3
   have hgr3 := zMI (Value.int .i64) w2 g n3 (L3 ++ List.replicate (L2.length - L3.length) 0).toArray #[]
   rw [← hw3'] at hown3 hgr3
   have H3 := zF hown3
   have HB3 := zF (HB2.out.grown hgr3 HB2.out.size (fun r e => by cases e; exact (own_fits H2.out).2.2))
   have HI4 := zF hcm
   have hsz3 : L3.length ≤ 25 := by omega
   clear hw3 hw3' hown3 hgr3 H2 HB2 HI3 hcm hcl hsz2
   have hdel := AnyE.slices_DeleteFunc Tryz.lays181 (Value.int .i64) (fun _ => rfl) (fun x => decide (999 < x)) 182 #[] (enters_of func182 (by kernel_rfl) rfl) 0 Tryz.zeroValue3 g 0 cap L3.toArray w3
    (fun W x _ => marks1_gives W x) (fun n os dk x _ => marks1_gives _ x) (own_holds H3.out) (Nat.le_trans hsz3 (by decide)) (own_fits H3.out).2.1
   change Calls prog 181 _ _ _ at hdel
   have HDEL := zF hdel
   clear hdel
   go_wp2_with fail
   refine HDEL.out.mono ?_
   rintro e w5 ⟨rfl, n5, hw5⟩
   have e1 : L3.toArray.toList = L3 := rfl
   have e2 : L3.toArray.size = L3.length := by simp
   rw [e2] at hw5
   (try rw [e1])
   have hfl : (L3.filter fun x => !decide (999 < x)).length ≤ L3.length := List.length_filter_le _ _
   have hfm : ∀ x ∈ L3.filter (fun x => !decide (999 < x)), I64 x := fun x hx => HI4.out x (List.mem_filter.1 hx).1
   generalize (L3.filter fun x => !decide (999 < x)) = L4 at *
   have hw5' : w5 = sortWorld (Value.int .i64) w3 g 0 n5 (L4 ++ List.replicate (L3.length - L4.length) 0).toArray #[] := hw5
   have hown5 := own_pre (own_world H3.out n5 (L4 ++ List.replicate (L3.length - L4.length) 0) #[] (by simp; omega)) L4.length hfl
   rw [List.map_append, List.take_left' (by simp)] at hown5
   have hgr5 := zMI (Value.int .i64) w3 g n5 (L4 ++ List.replicate (L3.length - L4.length) 0).toArray #[]
   rw [← hw5'] at hown5 hgr5
   have HS := zF (zBG hown5 hfm)
   have HB5 := zF (HB3.out.grown hgr5 HB3.out.size (fun r e => by cases e; exact (own_fits H3.out).2.2))
   clear hw5 hw5' hown5 hgr5 HDEL H3 HB3 HI4 hfm
   go_wp2
   go_ret
   exact ⟨_, L4, rfl, HS.out, by omega, HB5.out⟩
end Go.Proofs.YtpolpdegpbahiaaGreatDoor
