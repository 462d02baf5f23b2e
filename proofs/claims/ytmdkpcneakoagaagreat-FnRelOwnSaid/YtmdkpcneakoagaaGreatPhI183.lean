/- The reference's table, walked. -/
import Derived.Test.YtmdkpcneakoagaaGreatEvTable
import Derived.WalkKit
import Derived.Deep.LoopGhost
import Derived.Deep.OwnRows
import Derived.Deep.Cut
import Derived.Deep.Light
import Derived.CellFam
import Derived.BigGuard
import Derived.RegionTactic
import Derived.BigRegion
import Derived.Test.YtmdkpcneakoagaaGreatProg
namespace Go.It.T183
open Go Go.Proofs Go.Deep
set_option linter.unusedVariables false
theorem info3 : (Tryz.prog.info? 3).map (fun i => (i.zero, i.size, i.bytes)) = some (some (.int .i64 0), 1, 8) := by kernel_rfl
theorem info24 : (Tryz.prog.info? 24).map (fun i => (i.zero, i.size, i.bytes)) = some (some (.slice none 0 0), 1, 24) := by kernel_rfl
def top (N n m i : Nat) : Nat → Value := fun k => if i ≤ k then .slice (some ⟨N + 1 + (n - k), 0, none⟩) (m + 1) (m + 1) else .slice none 0 0
structure Outer (w wr : World) (n m i : Nat) (Z : Nat → Nat → Int) : Prop where
 since : w.Since w.heap.size wr
 drawn : w.drawn ≤ wr.drawn
 size : wr.heap.size = w.heap.size + 1 + (n + 1 - i)
 top : wr.rowIs w.heap.size 24 (n + 1) (top w.heap.size n m i)
 done : ∀ k, i ≤ k → k ≤ n → wr.rowIs (w.heap.size + 1 + (n - k)) 3 (m + 1) (fun j => .int .i64 (Z k j))
structure Q1R (w wr : World) (n m i j : Nat) (Z : Nat → Nat → Int) : Prop where
 since : w.Since w.heap.size wr
 drawn : w.drawn ≤ wr.drawn
 size : wr.heap.size = w.heap.size + 1 + (n + 1 - i)
 top : wr.rowIs w.heap.size 24 (n + 1) (top w.heap.size n m i)
 done : ∀ k, i < k → k ≤ n → wr.rowIs (w.heap.size + 1 + (n - k)) 3 (m + 1) (fun j => .int .i64 (Z k j))
 cur : wr.rowIs (w.heap.size + 1 + (n - i)) 3 (m + 1) (fun k => if j ≤ k then .int .i64 (Z i k) else .int .i64 0)
theorem Q4C (w : World) (n m : Nat) (Z : Nat → Nat → Int) : Outer w (w.alloc (.cells (madeCells #[.slice none 0 0] (n + 1)) 24)) n m (n + 1) Z :=
 ⟨(World.Since.refl _ _).alloc (Nat.le_refl _) _, Nat.le_refl _, by simp, (World.rowIs_made w _ (n + 1) 24).congr (fun k hk => by simp only [top]; rw [if_neg (by omega)]), fun k h1 h2 => by omega⟩
theorem Q49 {w wr : World} {n m i : Nat} {Z : Nat → Nat → Int} (hi : i ≤ n) (h : Outer w wr n m (i + 1) Z) :
  Q1R w ((wr.alloc (.cells (madeCells #[.int .i64 0] (m + 1)) 3)).setCell ⟨w.heap.size, i, none⟩ (.slice (some ⟨w.heap.size + 1 + (n - i), 0, none⟩) (m + 1) (m + 1))) n m i (m + 1) Z := by
 have hs := h.size
 have hnew := World.rowIs_made wr (.int .i64 0) (m + 1) 3
 rw [show wr.heap.size = w.heap.size + 1 + (n - i) by omega] at hnew
 refine ⟨(h.since.alloc (by omega) _).setCell (Nat.le_refl _) _, h.drawn, by simp [h.size]; omega, ((h.top.alloc _).set i _).congr (fun k hk => ?_), fun k h1 h2 => ((h.done k h1 h2).alloc _).setOther (by show w.heap.size + 1 + (n - k) ≠ w.heap.size; omega) _,
  (hnew.setOther (by show w.heap.size + 1 + (n - i) ≠ w.heap.size; omega) _).congr (fun k hk => by rw [if_neg (by omega)])⟩
 simp only [top]
 by_cases e : k = i
 ·subst e; simp
 ·rw [if_neg e]
  by_cases hlt : i + 1 ≤ k
  ·rw [if_pos hlt, if_pos (by omega)]
  ·rw [if_neg hlt, if_neg (by omega)]
def upd (Z : Nat → Nat → Int) (i j : Nat) (v : Int) : Nat → Nat → Int := fun a b => if a = i ∧ b = j then v else Z a b
theorem Q3b (Z : Nat → Nat → Int) (i j : Nat) (v : Int) (h : Z i j = v) : upd Z i j v = Z := by
 funext a b
 unfold upd
 by_cases e : a = i ∧ b = j
 ·obtain ⟨rfl, rfl⟩ := e; simp [h]
 ·rw [if_neg e]
theorem upd_upd (Z : Nat → Nat → Int) (i j : Nat) (v v' : Int) : upd (upd Z i j v) i j v' = upd Z i j v' := by
 funext a b
 unfold upd
 by_cases e : a = i ∧ b = j
 ·rw [if_pos e, if_pos e]
 ·rw [if_neg e, if_neg e, if_neg e]
theorem inner_set {w wr : World} {n m i j c : Nat} {Z : Nat → Nat → Int} (hi : i ≤ n) (hc : c = j + 1 ∨ c = j) (h : Q1R w wr n m i c Z) (v : Int) :
  Q1R w (wr.setCell ⟨w.heap.size + 1 + (n - i), j, none⟩ (.int .i64 v)).drew n m i j (upd Z i j v) := by
 refine ⟨(h.since.setCell (by show w.heap.size ≤ w.heap.size + 1 + (n - i); omega) _).drew, Nat.le_trans h.drawn (Nat.le_succ _), by simp [h.size], (h.top.setOther (by show w.heap.size ≠ w.heap.size + 1 + (n - i); omega) _).drew, fun k h1 h2 => ((h.done k h1 h2).setOther (by show w.heap.size + 1 + (n - k) ≠ w.heap.size + 1 + (n - i); omega) _).drew.congr (fun b _ => by unfold upd; rw [if_neg (by omega)]), (h.cur.set j _).drew.congr (fun k hk => ?_)⟩
 unfold upd
 by_cases e : k = j
 ·subst e; simp
 ·rw [if_neg e]
  by_cases hlt : j ≤ k
  ·rw [if_pos hlt, if_pos (by omega), if_neg (by omega)]
  ·rw [if_neg hlt, if_neg (by omega)]
theorem Q4a {w wr : World} {n m i j : Nat} {Z : Nat → Nat → Int} (h : Q1R w wr n m i j Z) : Q1R w wr.drew n m i j Z :=
 ⟨h.since.drew, Nat.le_trans h.drawn (Nat.le_succ _), h.size, h.top.drew, fun k h1 h2 => (h.done k h1 h2).drew, h.cur.drew⟩
theorem inner_done {w wr : World} {n m i : Nat} {Z : Nat → Nat → Int} (hi : i ≤ n) (h : Q1R w wr n m i 0 Z) : Outer w wr n m i Z :=
 ⟨h.since, h.drawn, h.size, h.top, fun k h1 h2 => by
  by_cases e : k = i
  ·subst e; exact h.cur.congr (fun b _ => by rw [if_pos (Nat.zero_le _)])
  ·exact h.done k (by omega) h2⟩
set_option maxHeartbeats 3200000 in
set_option maxRecDepth 1000000 in
theorem walk (a b : Option Addr) (n m ca cb : Nat) (A B : Nat → Int) (Z : Nat → Nat → Int) (w : World) (hn : n ≤ 1000000) (hm : m ≤ 1000000) (hA : Ev.InInts w a n A) (hB : Ev.InInts w b m B)
  (z1 : ∀ j, j ≤ m → Z n j = 0) (z2 : ∀ i, i ≤ n → Z i m = 0) (z3 : ∀ i j, i < n → j < m → Z i j = Ev.fS (A i == B j) (Z (i + 1) (j + 1)) (Z (i + 1) j) (Z i (j + 1))) :
  Calls Tryz.prog 183 #[.slice a n ca, .slice b m cb] w fun e w' => e = .returned (.slice (some ⟨w.heap.size, 0, none⟩) (n + 1) (n + 1)) ∧ Ev.TabW w w' n m Z := by
 have hmk1 := run_make_row' (P := Tryz.prog) 182 24 (.slice none 0 0) 24 Tryz.underlying182 info24 rfl .i64 .i64 (n + 1) (by omega) (by omega)
 have hmk2 := run_make_row' (P := Tryz.prog) 24 3 (.int .i64 0) 8 Tryz.underlying24 info3 rfl .i64 .i64 (m + 1) (by omega) (by omega)
 simp only [Int.natCast_add, Int.natCast_one] at hmk1 hmk2
 go_enter Tryz.func183, Tryz.ntmps183
 go_wp2
 go_loopg [6] (n + 1) (fun g i wr => ∃ (c : Nat) (x : Int), c ≤ n + 1 ∧ g = c ∧ i = .int .i64 x ∧ x = (c : Int) - 1 ∧ Outer w wr n m c Z)
 case atStart => exact ⟨n + 1, _, Nat.le_refl _, rfl, rfl, by simp, Q4C w n m Z⟩
 case round =>
  obtain ⟨c, x, hc, rfl, rfl, hx, hO⟩ := hrel
  cases gk with
  | zero =>
   have hx0 : x < 0 := by omega
   clear hmk1 hmk2 hx
   go_wp2
   go_ret
   exact ⟨rfl, hO.since, hO.drawn, by have := hO.size; omega, fun i hi => by have := hO.top.cell (i := i) (by omega); simpa [top] using this, fun i hi j hj => (hO.done i (Nat.zero_le _) hi).cell (by omega)⟩
  | succ i =>
   obtain rfl : x = (i : Int) := by omega
   have hi : i ≤ n := by omega
   have hsize : wr.heap.size = w.heap.size + 1 + (n - i) := by have := hO.size; omega
   have hst1 : ∀ o, (wr.alloc o).cell? ⟨w.heap.size, i, none⟩ = some (.slice none 0 0) := fun o => by
    have := (hO.top.alloc o).cell (i := i) (by omega)
    simp only [top] at this
    rwa [if_neg (by omega)] at this
   have hst2 : ∀ o, (wr.alloc o).frozen? ⟨w.heap.size, i, none⟩ = false := fun o => (hO.top.alloc o).frozen i
   have hI0 := Q49 hi hO
   clear hmk1 hx
   go_wp2
   clear hmk2 hst1 hst2 hsize
   go_loopg [7] (m + 1) (fun g j wi => ∃ (c : Nat) (x : Int), c ≤ m + 1 ∧ g = c ∧ j = .int .i64 x ∧ x = (c : Int) - 1 ∧ Q1R w wi n m i c Z)
   case atStart => exact ⟨m + 1, _, Nat.le_refl _, rfl, rfl, by simp, hI0⟩
   case round =>
    obtain ⟨c, x, hc2, rfl, rfl, hx, hI⟩ := hrel
    clear hI0
    cases gk with
    | zero =>
     have hx0 : x < 0 := by omega
     clear hx
     go_wp2
     go_roundg i
     case measure => exact Nat.lt_succ_self i
     case rel => exact ⟨i, _, by omega, rfl, rfl, rfl, inner_done hi hI⟩
    | succ j =>
     obtain rfl : x = (j : Int) := by omega
     have hj : j ≤ m := by omega
     clear hx
     by_cases hlt : i < n ∧ j < m
     ·obtain ⟨hin, hjm⟩ := hlt
      obtain ⟨ada, rfl, ha⟩ := hA i hin
      obtain ⟨adb, rfl, hb⟩ := hB j hjm
      have hab : ada.block < w.heap.size := by have := World.block_lt_of_cell? _ _ ha; rwa [Go.Ev.add_block] at this
      have hbb : adb.block < w.heap.size := by have := World.block_lt_of_cell? _ _ hb; rwa [Go.Ev.add_block] at this
      have g1 : wr.cell? ⟨w.heap.size, i, none⟩ = some (.slice (some ⟨w.heap.size + 1 + (n - i), 0, none⟩) (m + 1) (m + 1)) := by
       have := hI.top.cell (i := i) (by omega); simpa [top] using this
      have g2 : wr.cell? ⟨w.heap.size, i + 1, none⟩ = some (.slice (some ⟨w.heap.size + 1 + (n - (i + 1)), 0, none⟩) (m + 1) (m + 1)) := by
       have := hI.top.cell (i := i + 1) (by omega); simpa [top] using this
      have g3 : wr.cell? ⟨w.heap.size + 1 + (n - (i + 1)), j, none⟩ = some (.int .i64 (Z (i + 1) j)) := (hI.done (i + 1) (by omega) (by omega)).cell (by omega)
      have g4 : wr.cell? ⟨w.heap.size + 1 + (n - (i + 1)), j + 1, none⟩ = some (.int .i64 (Z (i + 1) (j + 1))) := (hI.done (i + 1) (by omega) (by omega)).cell (by omega)
      have g5 : wr.cell? ⟨w.heap.size + 1 + (n - i), j + 1, none⟩ = some (.int .i64 (Z i (j + 1))) := by
       have := hI.cur.cell (i := j + 1) (by omega); rwa [if_pos (Nat.le_refl _)] at this
      have g6 : wr.cell? ⟨w.heap.size + 1 + (n - i), j, none⟩ = some (.int .i64 0) := by
       have := hI.cur.cell (i := j) (by omega); rwa [if_neg (by omega)] at this
      have g7 : wr.frozen? ⟨w.heap.size + 1 + (n - i), j, none⟩ = false := hI.cur.frozen j
      have g8 : wr.cell? (ada.add i) = some (.int .i64 (A i)) := by rw [hI.since.cell (a := ada.add i) (by rw [Go.Ev.add_block]; exact hab)]; exact ha
      have g9 : wr.cell? (adb.add j) = some (.int .i64 (B j)) := by rw [hI.since.cell (a := adb.add j) (by rw [Go.Ev.add_block]; exact hbb)]; exact hb
      have HA : Aside (Ev.InInts w (some ada) n A ∧ Ev.InInts w (some adb) m B ∧ (∀ j, j ≤ m → Z n j = 0) ∧ (∀ i, i ≤ n → Z i m = 0) ∧ (∀ i j, i < n → j < m → Z i j = Ev.fS (A i == B j) (Z (i + 1) (j + 1)) (Z (i + 1) j) (Z i (j + 1)))) := ⟨hA, hB, z1, z2, z3⟩
      clear hA hB z1 z2 z3 ha hb
      have hA0 : w.cell? (ada.add i) = some (.int .i64 (A i)) ∧ (ada.add i).block < w.heap.size := ⟨by rw [← g8, hI.since.cell (a := ada.add i) (by rw [Go.Ev.add_block]; exact hab)], by rw [Go.Ev.add_block]; exact hab⟩
      have hB0 : w.cell? (adb.add j) = some (.int .i64 (B j)) ∧ (adb.add j).block < w.heap.size := ⟨by rw [← g9, hI.since.cell (a := adb.add j) (by rw [Go.Ev.add_block]; exact hbb)], by rw [Go.Ev.add_block]; exact hbb⟩
      have HB : Aside ((w.cell? (ada.add i) = some (.int .i64 (A i)) ∧ (ada.add i).block < w.heap.size) ∧ (w.cell? (adb.add j) = some (.int .i64 (B j)) ∧ (adb.add j).block < w.heap.size)) := ⟨hA0, hB0⟩
      clear hA0 hB0 hab hbb g8 g9
      go_wp2
      go_region
      obtain ⟨v1, hv1⟩ : ∃ v1, (if Z (i + 1) j < Z i (j + 1) then Z i (j + 1) else Z (i + 1) j) = v1 := ⟨_, rfl⟩
      rw [hv1]
      have HV : Aside ((if Z (i + 1) j < Z i (j + 1) then Z i (j + 1) else Z (i + 1) j) = v1) := hv1
      clear hv1
      obtain ⟨W1, hW1⟩ : ∃ W1, (wr.setCell ⟨w.heap.size + 1 + (n - i), j, none⟩ (.int .i64 v1)).drew = W1 := ⟨_, rfl⟩
      rw [hW1]
      have hI1 := inner_set hi (.inl rfl) hI v1
      rw [hW1] at hI1
      clear hW1 g1 g2 g3 g4 g5 g6 g7
      have g8 : W1.cell? (ada.add i) = some (.int .i64 (A i)) := by rw [hI1.since.cell (a := ada.add i) HB.out.1.2]; exact HB.out.1.1
      have g9 : W1.cell? (adb.add j) = some (.int .i64 (B j)) := by rw [hI1.since.cell (a := adb.add j) HB.out.2.2]; exact HB.out.2.1
      have HI : Aside (Q1R w W1 n m i j (upd Z i j v1)) := hI1
      by_cases hAB : A i = B j
      ·have g1 : W1.cell? ⟨w.heap.size, i, none⟩ = some (.slice (some ⟨w.heap.size + 1 + (n - i), 0, none⟩) (m + 1) (m + 1)) := by
        have := hI1.top.cell (i := i) (by omega); simpa [top] using this
       have g2 : W1.cell? ⟨w.heap.size, i + 1, none⟩ = some (.slice (some ⟨w.heap.size + 1 + (n - (i + 1)), 0, none⟩) (m + 1) (m + 1)) := by
        have := hI1.top.cell (i := i + 1) (by omega); simpa [top] using this
       have g4 : W1.cell? ⟨w.heap.size + 1 + (n - (i + 1)), j + 1, none⟩ = some (.int .i64 (Z (i + 1) (j + 1))) := by
        have := (hI1.done (i + 1) (by omega) (by omega)).cell (i := j + 1) (by omega)
        unfold upd at this; rwa [if_neg (by omega)] at this
       have g6 : W1.cell? ⟨w.heap.size + 1 + (n - i), j, none⟩ = some (.int .i64 v1) := by
        have := hI1.cur.cell (i := j) (by omega)
        unfold upd at this; rwa [if_pos (Nat.le_refl _), if_pos ⟨rfl, rfl⟩] at this
       have g7 : W1.frozen? ⟨w.heap.size + 1 + (n - i), j, none⟩ = false := hI1.cur.frozen j
       clear hI hI1
       have fin : ∀ v2, Z i j = v2 → Q1R w (W1.setCell ⟨w.heap.size + 1 + (n - i), j, none⟩ (.int .i64 v2)).drew.drew n m i j Z := fun v2 hv => by
        have := Q4a (inner_set hi (.inr rfl) HI.out v2)
        rw [upd_upd] at this
        rwa [Q3b Z i j _ hv] at this
       have hval : Z i j = if v1 < RowKit.wrap64 (1 + Z (i + 1) (j + 1)) then RowKit.wrap64 (1 + Z (i + 1) (j + 1)) else v1 := by
        rw [HA.out.2.2.2.2 i j hin hjm, ← HV.out]
        unfold Ev.fS
        rw [if_pos (by simpa using hAB)]
       have FIN : Aside (∀ v2, Z i j = v2 → Q1R w (W1.setCell ⟨w.heap.size + 1 + (n - i), j, none⟩ (.int .i64 v2)).drew.drew n m i j Z) := fin
       have VAL : Aside (Z i j = if v1 < RowKit.wrap64 (1 + Z (i + 1) (j + 1)) then RowKit.wrap64 (1 + Z (i + 1) (j + 1)) else v1) := hval
       clear fin hval
       by_cases hcmp : v1 < RowKit.wrap64 (1 + Z (i + 1) (j + 1))
       ·go_wp2
        go_region
        go_wp2
        go_region
        all_goals go_wp2
        all_goals go_roundg j
        all_goals first | exact Nat.lt_succ_self j | exact ⟨j, _, by omega, rfl, rfl, rfl, FIN.out _ (VAL.out.trans (if_pos hcmp))⟩
       ·go_wp2
        go_region
        go_wp2
        go_region
        all_goals go_wp2
        all_goals go_roundg j
        all_goals first | exact Nat.lt_succ_self j | exact ⟨j, _, by omega, rfl, rfl, rfl, FIN.out _ (VAL.out.trans (if_neg (Int.not_lt.2 hcmp)))⟩
      ·clear hI hI1
       go_wp2
       go_region
       go_wp2
       go_roundg j
       case measure => exact Nat.lt_succ_self j
       case rel =>
        refine ⟨j, _, by omega, rfl, rfl, rfl, ?_⟩
        have := Q4a HI.out
        rwa [Q3b Z i j v1 (by
         rw [HA.out.2.2.2.2 i j hin hjm, ← HV.out]
         unfold Ev.fS
         rw [if_neg (by simpa using hAB)])] at this
     ·have hno : ¬ (i < n) ∨ ¬ (j < m) := by omega
      have hz : Z i j = 0 := by
       rcases hno with h | h
       ·obtain rfl : i = n := by omega
        exact z1 j hj
       ·obtain rfl : j = m := by omega
        exact z2 i hi
      have hstep : Q1R w wr n m i j Z := ⟨hI.since, hI.drawn, hI.size, hI.top, hI.done, hI.cur.congr (fun k hk => by
       by_cases e : j + 1 ≤ k
       ·rw [if_pos e, if_pos (by omega)]
       ·rw [if_neg e]
        by_cases e2 : j ≤ k
        ·obtain rfl : k = j := by omega
         rw [if_pos e2, hz]
        ·rw [if_neg e2])⟩
      have HH : Aside (Z i j = 0) := hz
      clear hz hA hB z1 z2 z3
      rcases hno with h | h
      all_goals go_wp2
      all_goals go_roundg j
      all_goals first | exact Nat.lt_succ_self j | exact ⟨j, _, by omega, rfl, rfl, rfl, hstep⟩
theorem tableOk : Ev.TableOk Tryz.prog 183 Ev.fS := fun a b n m ca cb A B Z w hn hm hA hB z1 z2 z3 => walk a b n m ca cb A B Z w hn hm hA hB z1 z2 z3
end Go.It.T183
