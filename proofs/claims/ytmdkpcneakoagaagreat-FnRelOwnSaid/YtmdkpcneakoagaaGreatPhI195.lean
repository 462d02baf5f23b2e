/- The program's table, walked. -/
import Derived.Test.YtmdkpcneakoagaaGreatEvTable
import Derived.WalkKit
import Derived.Deep.LoopGhost
import Derived.Deep.OwnRows
import Derived.Deep.Cut
import Derived.Deep.Light
import Derived.CellFam
import Derived.BigGuard
import Derived.RegionTactic
import Derived.BigRegion
import Derived.Test.YtmdkpcneakoagaaGreatProg
namespace Go.It.T195
open Go Go.Proofs Go.Deep
set_option linter.unusedVariables false
theorem info3 : (Tryz.prog.info? 3).map (fun i => (i.zero, i.size, i.bytes)) = some (some (.int .i64 0), 1, 8) := by kernel_rfl
theorem info24 : (Tryz.prog.info? 24).map (fun i => (i.zero, i.size, i.bytes)) = some (some (.slice none 0 0), 1, 24) := by kernel_rfl
def top (N n m i : Nat) : Nat → Value := fun k => if i ≤ k then .slice (some ⟨N + 1 + (n - k), 0, none⟩) (m + 1) (m + 1) else .slice none 0 0
structure Outer (w wr : World) (n m i : Nat) (Z : Nat → Nat → Int) : Prop where
 since : w.Since w.heap.size wr
 drawn : w.drawn ≤ wr.drawn
 size : wr.heap.size = w.heap.size + 1 + (n + 1 - i)
 top : wr.rowIs w.heap.size 24 (n + 1) (top w.heap.size n m i)
 done : ∀ k, i ≤ k → k ≤ n → wr.rowIs (w.heap.size + 1 + (n - k)) 3 (m + 1) (fun j => .int .i64 (Z k j))
structure Q1R (w wr : World) (n m i j : Nat) (Z : Nat → Nat → Int) : Prop where
 since : w.Since w.heap.size wr
 drawn : w.drawn ≤ wr.drawn
 size : wr.heap.size = w.heap.size + 1 + (n + 1 - i)
 top : wr.rowIs w.heap.size 24 (n + 1) (top w.heap.size n m i)
 done : ∀ k, i < k → k ≤ n → wr.rowIs (w.heap.size + 1 + (n - k)) 3 (m + 1) (fun j => .int .i64 (Z k j))
 cur : wr.rowIs (w.heap.size + 1 + (n - i)) 3 (m + 1) (fun k => if j ≤ k then .int .i64 (Z i k) else .int .i64 0)
theorem Q4C (w : World) (n m : Nat) (Z : Nat → Nat → Int) : Outer w (w.alloc (.cells (madeCells #[.slice none 0 0] (n + 1)) 24)) n m (n + 1) Z :=
 ⟨(World.Since.refl _ _).alloc (Nat.le_refl _) _, Nat.le_refl _, by simp, (World.rowIs_made w _ (n + 1) 24).congr (fun k hk => by simp only [top]; rw [if_neg (by omega)]), fun k h1 h2 => by omega⟩
theorem Q49 {w wr : World} {n m i : Nat} {Z : Nat → Nat → Int} (hi : i ≤ n) (h : Outer w wr n m (i + 1) Z) :
  Q1R w ((wr.alloc (.cells (madeCells #[.int .i64 0] (m + 1)) 3)).setCell ⟨w.heap.size, i, none⟩ (.slice (some ⟨w.heap.size + 1 + (n - i), 0, none⟩) (m + 1) (m + 1))) n m i (m + 1) Z := by
 have hs := h.size
 have hnew := World.rowIs_made wr (.int .i64 0) (m + 1) 3
 rw [show wr.heap.size = w.heap.size + 1 + (n - i) by omega] at hnew
 refine ⟨(h.since.alloc (by omega) _).setCell (Nat.le_refl _) _, h.drawn, by simp [h.size]; omega, ((h.top.alloc _).set i _).congr (fun k hk => ?_), fun k h1 h2 => ((h.done k h1 h2).alloc _).setOther (by show w.heap.size + 1 + (n - k) ≠ w.heap.size; omega) _,
  (hnew.setOther (by show w.heap.size + 1 + (n - i) ≠ w.heap.size; omega) _).congr (fun k hk => by rw [if_neg (by omega)])⟩
 simp only [top]
 by_cases e : k = i
 ·subst e; simp
 ·rw [if_neg e]
  by_cases hlt : i + 1 ≤ k
  ·rw [if_pos hlt, if_pos (by omega)]
  ·rw [if_neg hlt, if_neg (by omega)]
def upd (Z : Nat → Nat → Int) (i j : Nat) (v : Int) : Nat → Nat → Int := fun a b => if a = i ∧ b = j then v else Z a b
theorem Q3b (Z : Nat → Nat → Int) (i j : Nat) (v : Int) (h : Z i j = v) : upd Z i j v = Z := by
 funext a b
 unfold upd
 by_cases e : a = i ∧ b = j
 ·obtain ⟨rfl, rfl⟩ := e; simp [h]
 ·rw [if_neg e]
theorem upd_upd (Z : Nat → Nat → Int) (i j : Nat) (v v' : Int) : upd (upd Z i j v) i j v' = upd Z i j v' := by
 funext a b
 unfold upd
 by_cases e : a = i ∧ b = j
 ·rw [if_pos e, if_pos e]
 ·rw [if_neg e, if_neg e, if_neg e]
theorem inner_set {w wr : World} {n m i j c : Nat} {Z : Nat → Nat → Int} (hi : i ≤ n) (hc : c = j + 1 ∨ c = j) (h : Q1R w wr n m i c Z) (v : Int) :
  Q1R w (wr.setCell ⟨w.heap.size + 1 + (n - i), j, none⟩ (.int .i64 v)).drew n m i j (upd Z i j v) := by
 refine ⟨(h.since.setCell (by show w.heap.size ≤ w.heap.size + 1 + (n - i); omega) _).drew, Nat.le_trans h.drawn (Nat.le_succ _), by simp [h.size], (h.top.setOther (by show w.heap.size ≠ w.heap.size + 1 + (n - i); omega) _).drew, fun k h1 h2 => ((h.done k h1 h2).setOther (by show w.heap.size + 1 + (n - k) ≠ w.heap.size + 1 + (n - i); omega) _).drew.congr (fun b _ => by unfold upd; rw [if_neg (by omega)]), (h.cur.set j _).drew.congr (fun k hk => ?_)⟩
 unfold upd
 by_cases e : k = j
 ·subst e; simp
 ·rw [if_neg e]
  by_cases hlt : j ≤ k
  ·rw [if_pos hlt, if_pos (by omega), if_neg (by omega)]
  ·rw [if_neg hlt, if_neg (by omega)]
theorem Q4a {w wr : World} {n m i j : Nat} {Z : Nat → Nat → Int} (h : Q1R w wr n m i j Z) : Q1R w wr.drew n m i j Z :=
 ⟨h.since.drew, Nat.le_trans h.drawn (Nat.le_succ _), h.size, h.top.drew, fun k h1 h2 => (h.done k h1 h2).drew, h.cur.drew⟩
theorem inner_done {w wr : World} {n m i : Nat} {Z : Nat → Nat → Int} (hi : i ≤ n) (h : Q1R w wr n m i 0 Z) : Outer w wr n m i Z :=
 ⟨h.since, h.drawn, h.size, h.top, fun k h1 h2 => by
  by_cases e : k = i
  ·subst e; exact h.cur.congr (fun b _ => by rw [if_pos (Nat.zero_le _)])
  ·exact h.done k (by omega) h2⟩
theorem inner_zero {w wr : World} {n m i : Nat} {Z : Nat → Nat → Int} (h : Q1R w wr n m i (m + 1) Z) (hz : Z i m = 0) : Q1R w wr n m i m Z :=
 ⟨h.since, h.drawn, h.size, h.top, h.done, h.cur.congr (fun k hk => by
  rw [if_neg (by omega)]
  by_cases e : m ≤ k
  ·obtain rfl : k = m := by omega
   rw [if_pos (Nat.le_refl _), hz]
  ·rw [if_neg e])⟩
theorem inner_zeros {w wr : World} {n m : Nat} {Z : Nat → Nat → Int} (h : Q1R w wr n m n (m + 1) Z) (hz : ∀ j, j ≤ m → Z n j = 0) : Outer w wr n m n Z :=
 ⟨h.since, h.drawn, h.size, h.top, fun k h1 h2 => by
  obtain rfl : k = n := by omega
  exact h.cur.congr (fun b hb => by rw [if_neg (by omega), hz b (by omega)])⟩
set_option maxHeartbeats 3200000 in
set_option maxRecDepth 1000000 in
theorem walk (a b : Option Addr) (n m ca cb : Nat) (A B : Nat → Int) (Z : Nat → Nat → Int) (w : World) (hn : n ≤ 1000000) (hm : m ≤ 1000000) (hA : Ev.InInts w a n A) (hB : Ev.InInts w b m B)
  (z1 : ∀ j, j ≤ m → Z n j = 0) (z2 : ∀ i, i ≤ n → Z i m = 0) (z3 : ∀ i j, i < n → j < m → Z i j = Ev.fI (A i == B j) (Z (i + 1) (j + 1)) (Z (i + 1) j) (Z i (j + 1))) :
  Calls Tryz.prog 195 #[.slice a n ca, .slice b m cb] w fun e w' => e = .returned (.slice (some ⟨w.heap.size, 0, none⟩) (n + 1) (n + 1)) ∧ Ev.TabW w w' n m Z := by
 have hmk1 := run_make_row' (P := Tryz.prog) 182 24 (.slice none 0 0) 24 Tryz.underlying182 info24 rfl .i64 .i64 (n + 1) (by omega) (by omega)
 have hmk2 := run_make_row' (P := Tryz.prog) 24 3 (.int .i64 0) 8 Tryz.underlying24 info3 rfl .i64 .i64 (m + 1) (by omega) (by omega)
 simp only [Int.natCast_add, Int.natCast_one] at hmk1 hmk2
 have hO0 := Q4C w n m Z
 have hI0 := Q49 (Nat.le_refl n) hO0
 have hOn := inner_zeros hI0 z1
 obtain ⟨W0, hW0⟩ : ∃ W0, w.alloc (.cells (madeCells #[.slice none 0 0] (n + 1)) 24) = W0 := ⟨_, rfl⟩
 rw [hW0] at hO0 hOn hI0
 have hst1 : ∀ o, (W0.alloc o).cell? ⟨w.heap.size, n, none⟩ = some (.slice none 0 0) := fun o => by
  have := (hO0.top.alloc o).cell (i := n) (by omega)
  simp only [top] at this
  rwa [if_neg (by omega)] at this
 have hst2 : ∀ o, (W0.alloc o).frozen? ⟨w.heap.size, n, none⟩ = false := fun o => (hO0.top.alloc o).frozen n
 have hsz0 : W0.heap.size = w.heap.size + 1 := by rw [hO0.size]; omega
 have ON : Aside (Outer w ((W0.alloc (.cells (madeCells #[.int .i64 0] (m + 1)) 3)).setCell ⟨w.heap.size, n, none⟩ (.slice (some ⟨w.heap.size + 1 + (n - n), 0, none⟩) (m + 1) (m + 1))) n m n Z) := hOn
 clear hO0 hI0 hOn
 go_enter Tryz.func195, Tryz.ntmps195
 go_wp2
 go_loopg [6] n (fun g i wr => ∃ (c : Nat) (x : Int), c ≤ n ∧ g = c ∧ i = .int .i64 x ∧ x = (c : Int) - 1 ∧ Outer w wr n m c Z)
 case atStart =>
  refine ⟨n, _, Nat.le_refl _, rfl, rfl, rfl, ?_⟩
  have h := ON.out
  rw [World.setCell_alloc_past _ _ _ _ (by omega), Nat.sub_self] at h
  exact h
 case round =>
  obtain ⟨c, x, hc, rfl, rfl, hx, hO⟩ := hrel
  cases gk with
  | zero =>
   have hx0 : x < 0 := by omega
   clear hmk1 hmk2 hst1 hst2 hsz0 hx
   go_wp2
   go_ret
   exact ⟨rfl, hO.since, hO.drawn, by have := hO.size; omega, fun i hi => by have := hO.top.cell (i := i) (by omega); simpa [top] using this, fun i hi j hj => (hO.done i (Nat.zero_le _) hi).cell (by omega)⟩
  | succ i =>
   obtain rfl : x = (i : Int) := by omega
   have hin : i < n := by omega
   have hi : i ≤ n := by omega
   have hsize : wr.heap.size = w.heap.size + 1 + (n - i) := by have := hO.size; omega
   clear hst1 hst2 hsz0
   have hst1 : ∀ o, (wr.alloc o).cell? ⟨w.heap.size, i, none⟩ = some (.slice none 0 0) := fun o => by
    have := (hO.top.alloc o).cell (i := i) (by omega)
    simp only [top] at this
    rwa [if_neg (by omega)] at this
   have hst2 : ∀ o, (wr.alloc o).frozen? ⟨w.heap.size, i, none⟩ = false := fun o => (hO.top.alloc o).frozen i
   have hI0 := inner_zero (Q49 hi hO) (z2 i hi)
   clear hmk1 hx
   go_wp2
   clear hmk2 hst1 hst2 hsize
   go_loopg [7] m (fun g j wi => ∃ (c : Nat) (x : Int), c ≤ m ∧ g = c ∧ j = .int .i64 x ∧ x = (c : Int) - 1 ∧ Q1R w wi n m i c Z)
   case atStart => exact ⟨m, _, Nat.le_refl _, rfl, rfl, rfl, hI0⟩
   case round =>
    obtain ⟨c, x, hc2, rfl, rfl, hx, hI⟩ := hrel
    clear hI0
    cases gk with
    | zero =>
     have hx0 : x < 0 := by omega
     clear hx
     go_wp2
     go_roundg i
     case measure => exact Nat.lt_succ_self i
     case rel => exact ⟨i, _, by omega, rfl, rfl, rfl, inner_done hi hI⟩
    | succ j =>
     obtain rfl : x = (j : Int) := by omega
     have hjm : j < m := by omega
     have hj : j ≤ m := by omega
     clear hx
     obtain ⟨ada, rfl, ha⟩ := hA i hin
     obtain ⟨adb, rfl, hb⟩ := hB j hjm
     have hab : (ada.add i).block < w.heap.size := World.block_lt_of_cell? _ _ ha
     have hbb : (adb.add j).block < w.heap.size := World.block_lt_of_cell? _ _ hb
     have g1 : wr.cell? ⟨w.heap.size, i, none⟩ = some (.slice (some ⟨w.heap.size + 1 + (n - i), 0, none⟩) (m + 1) (m + 1)) := by
      have := hI.top.cell (i := i) (by omega); simpa [top] using this
     have g2 : wr.cell? ⟨w.heap.size, i + 1, none⟩ = some (.slice (some ⟨w.heap.size + 1 + (n - (i + 1)), 0, none⟩) (m + 1) (m + 1)) := by
      have := hI.top.cell (i := i + 1) (by omega); simpa [top] using this
     have g3 : wr.cell? ⟨w.heap.size + 1 + (n - (i + 1)), j, none⟩ = some (.int .i64 (Z (i + 1) j)) := (hI.done (i + 1) (by omega) (by omega)).cell (by omega)
     have g4 : wr.cell? ⟨w.heap.size + 1 + (n - (i + 1)), j + 1, none⟩ = some (.int .i64 (Z (i + 1) (j + 1))) := (hI.done (i + 1) (by omega) (by omega)).cell (by omega)
     have g5 : wr.cell? ⟨w.heap.size + 1 + (n - i), j + 1, none⟩ = some (.int .i64 (Z i (j + 1))) := by
      have := hI.cur.cell (i := j + 1) (by omega); rwa [if_pos (Nat.le_refl _)] at this
     have g6 : wr.cell? ⟨w.heap.size + 1 + (n - i), j, none⟩ = some (.int .i64 0) := by
      have := hI.cur.cell (i := j) (by omega); rwa [if_neg (by omega)] at this
     have g7 : wr.frozen? ⟨w.heap.size + 1 + (n - i), j, none⟩ = false := hI.cur.frozen j
     have g8 : wr.cell? (ada.add i) = some (.int .i64 (A i)) := by rw [hI.since.cell (a := ada.add i) hab]; exact ha
     have g9 : wr.cell? (adb.add j) = some (.int .i64 (B j)) := by rw [hI.since.cell (a := adb.add j) hbb]; exact hb
     have fin : ∀ v2, Z i j = v2 → Q1R w (wr.setCell ⟨w.heap.size + 1 + (n - i), j, none⟩ (.int .i64 v2)).drew.drew n m i j Z := fun v2 hv => by
      have := Q4a (inner_set hi (.inl rfl) hI v2)
      rwa [Q3b Z i j _ hv] at this
     have FIN : Aside (∀ v2, Z i j = v2 → Q1R w (wr.setCell ⟨w.heap.size + 1 + (n - i), j, none⟩ (.int .i64 v2)).drew.drew n m i j Z) := fin
     by_cases hAB : A i = B j
     ·have VAL : Aside (Z i j = RowKit.wrap64 (Z (i + 1) (j + 1) + 1)) := by
       show Z i j = _
       rw [z3 i j hin hjm]; unfold Ev.fI; rw [if_pos (by simpa using hAB)]
      clear fin z1 z2 z3 hA hB hI hO ha hb hab hbb
      go_wp2
      go_region
      go_wp2
      go_region
      all_goals go_wp2
      all_goals go_roundg j
      all_goals first | exact Nat.lt_succ_self j | exact ⟨j, _, by omega, rfl, rfl, rfl, FIN.out _ VAL.out⟩
     ·have VAL : Aside (Z i j = if Z (i + 1) j < Z i (j + 1) then Z i (j + 1) else Z (i + 1) j) := by
       show Z i j = _
       rw [z3 i j hin hjm]; unfold Ev.fI; rw [if_neg (by simpa using hAB)]
      clear fin z1 z2 z3 hA hB hI hO ha hb hab hbb
      by_cases hcmp : Z (i + 1) j < Z i (j + 1)
      ·go_wp2
       go_region
       go_wp2
       go_region
       all_goals go_wp2
       all_goals go_roundg j
       all_goals first | exact Nat.lt_succ_self j | exact ⟨j, _, by omega, rfl, rfl, rfl, FIN.out _ (VAL.out.trans (if_pos hcmp))⟩
      ·go_wp2
       go_region
       go_wp2
       go_region
       all_goals go_wp2
       all_goals go_roundg j
       all_goals first | exact Nat.lt_succ_self j | exact ⟨j, _, by omega, rfl, rfl, rfl, FIN.out _ (VAL.out.trans (if_neg (Int.not_lt.2 hcmp)))⟩
theorem tableOk : Ev.TableOk Tryz.prog 195 Ev.fI := fun a b n m ca cb A B Z w hn hm hA hB z1 z2 z3 => walk a b n m ca cb A B Z w hn hm hA hB z1 z2 z3
end Go.It.T195
