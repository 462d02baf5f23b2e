/- Tables [][]int that a function fills from their end: what they are; their contract out of a walk. -/
import Derived.Test.YtmdkpcneakoagaaGreatEvC
import Derived.Deep.OwnRows
import Derived.RowKit
set_option linter.unusedSimpArgs false
namespace Go.Ev
open Go
variable {l : Qy} {β : Type}
def mkRow (f : Bool → Int → Int → Int → Int) (x : Int) : List Int → List Int → List Int
 | [], _ => [0]
 | y :: ys, d => f (x == y) (d.getD 1 0) (d.getD 0 0) ((mkRow f x ys d.tail).getD 0 0) :: mkRow f x ys d.tail
def Q0x (f : Bool → Int → Int → Int → Int) : List Int → List Int → List (List Int)
 | [], ys => [List.replicate (ys.length + 1) 0]
 | x :: xs, ys => mkRow f x ys ((Q0x f xs ys).getD 0 []) :: Q0x f xs ys
def tableC (f : Bool → Int → Int → Int → Int) (xs ys : List Int) : Option (List (List Int)) :=
 bif decide (xs.length ≤ 1000000) && decide (ys.length ≤ 1000000) then some (Q0x f xs ys) else none
abbrev w64 (x : Int) : Int := Go.RowKit.wrap64 x
def fS (e : Bool) (d u r : Int) : Int := if e then (if (if u < r then r else u) < w64 (1 + d) then w64 (1 + d) else (if u < r then r else u)) else (if u < r then r else u)
def fI (e : Bool) (d u r : Int) : Int := if e then w64 (d + 1) else (if u < r then r else u)
theorem mkRow_len (f : Bool → Int → Int → Int → Int) (x : Int) : ∀ (ys d : List Int), (mkRow f x ys d).length = ys.length + 1
 | [], _ => rfl
 | y :: ys, d => by rw [mkRow, Z2, mkRow_len, Z2]
theorem mkRow_last (f : Bool → Int → Int → Int → Int) (x : Int) : ∀ (ys d : List Int), (mkRow f x ys d).getD ys.length 0 = 0
 | [], _ => rfl
 | y :: ys, d => by rw [mkRow, Z2, Z85, mkRow_last]
theorem mkRow_at (f : Bool → Int → Int → Int → Int) (x : Int) : ∀ (ys d : List Int) (j : Nat), j < ys.length → (mkRow f x ys d).getD j 0 = f (x == ys.getD j 0) (d.getD (j + 1) 0) (d.getD j 0) ((mkRow f x ys d).getD (j + 1) 0)
 | [], _, _, h => absurd h (Z93 _)
 | y :: ys, d, 0, _ => by rw [mkRow, List.getD_cons_zero, Z85, List.getD_cons_zero]
 | y :: ys, d, j + 1, h => by
  have ht : ∀ k, d.tail.getD k 0 = d.getD (k + 1) 0 := fun k => by cases d <;> simp
  rw [mkRow, Z85, Z85, mkRow_at f x ys d.tail j (by simpa using h), ht, ht, Z85]
theorem Q47 (f : Bool → Int → Int → Int → Int) : ∀ (xs ys : List Int), (Q0x f xs ys).length = xs.length + 1
 | [], _ => rfl
 | x :: xs, ys => by rw [Q0x, Z2, Q47, Z2]
theorem Q4B (f : Bool → Int → Int → Int → Int) : ∀ (xs ys : List Int), (Q0x f xs ys).getD xs.length [] = List.replicate (ys.length + 1) 0
 | [], _ => rfl
 | x :: xs, ys => by rw [Q0x, Z2, Z85, Q4B]
theorem Q48 (f : Bool → Int → Int → Int → Int) : ∀ (xs ys : List Int) (i : Nat), i < xs.length → (Q0x f xs ys).getD i [] = mkRow f (xs.getD i 0) ys ((Q0x f xs ys).getD (i + 1) [])
 | [], _, _, h => absurd h (Z93 _)
 | x :: xs, ys, 0, _ => by rw [Q0x, List.getD_cons_zero, List.getD_cons_zero, Z85]
 | x :: xs, ys, i + 1, h => by rw [Q0x, Z85, Z85, Z85, Q48 f xs ys i (by simpa using h)]
def tabZ (f : Bool → Int → Int → Int → Int) (xs ys : List Int) (i j : Nat) : Int := ((Q0x f xs ys).getD i []).getD j 0
theorem tabZ_row (f : Bool → Int → Int → Int → Int) (xs ys : List Int) (j : Nat) (_ : j ≤ ys.length) : tabZ f xs ys xs.length j = 0 := by
 unfold tabZ
 rw [Q4B]
 simp [Z9, List.getElem?_replicate]; split <;> rfl
theorem tabZ_col (f : Bool → Int → Int → Int → Int) (xs ys : List Int) (i : Nat) (hi : i ≤ xs.length) : tabZ f xs ys i ys.length = 0 := by
 by_cases h : i = xs.length
 ·subst h; exact tabZ_row f xs ys _ (Z7 _)
 ·unfold tabZ
  rw [Q48 f xs ys i (by omega), mkRow_last]
theorem tabZ_at (f : Bool → Int → Int → Int → Int) (xs ys : List Int) (i j : Nat) (hi : i < xs.length) (hj : j < ys.length) :
  tabZ f xs ys i j = f (xs.getD i 0 == ys.getD j 0) (tabZ f xs ys (i + 1) (j + 1)) (tabZ f xs ys (i + 1) j) (tabZ f xs ys i (j + 1)) := by
 unfold tabZ
 rw [Q48 f xs ys i hi, mkRow_at f _ ys _ j hj]
theorem Q4Q (f : Bool → Int → Int → Int → Int) (xs ys : List Int) (i : Nat) (hi : i ≤ xs.length) : ((Q0x f xs ys).getD i []).length = ys.length + 1 := by
 by_cases h : i = xs.length
 ·subst h; rw [Q4B]; simp
 ·rw [Q48 f xs ys i (by omega), mkRow_len]
def InInts (w : World) (a : Option Addr) (n : Nat) (A : Nat → Int) : Prop := ∀ i, i < n → ∃ ad : Addr, a = some ad ∧ w.cell? (ad.add i) = some (.int .i64 (A i))
structure TabW (w w' : World) (n m : Nat) (Z : Nat → Nat → Int) : Prop where
 since : w.Since w.heap.size w'
 drawn : w.drawn ≤ w'.drawn
 size : w'.heap.size = w.heap.size + 1 + (n + 1)
 top : ∀ i, i ≤ n → w'.cell? ⟨w.heap.size, i, none⟩ = some (.slice (some ⟨w.heap.size + 1 + (n - i), 0, none⟩) (m + 1) (m + 1))
 row : ∀ i, i ≤ n → ∀ j, j ≤ m → w'.cell? ⟨w.heap.size + 1 + (n - i), j, none⟩ = some (.int .i64 (Z i j))
def TableOk (P : Program) (fn : FuncId) (f : Bool → Int → Int → Int → Int) : Prop :=
 ∀ (a b : Option Addr) (n m ca cb : Nat) (A B : Nat → Int) (Z : Nat → Nat → Int) (w : World), n ≤ 1000000 → m ≤ 1000000 → InInts w a n A → InInts w b m B →
  (∀ j, j ≤ m → Z n j = 0) → (∀ i, i ≤ n → Z i m = 0) → (∀ i j, i < n → j < m → Z i j = f (A i == B j) (Z (i + 1) (j + 1)) (Z (i + 1) j) (Z i (j + 1))) →
  Calls P fn #[.slice a n ca, .slice b m cb] w fun e w' => e = .returned (.slice (some ⟨w.heap.size, 0, none⟩) (n + 1) (n + 1)) ∧ TabW w w' n m Z
theorem con_table {P : Program} {fn : FuncId} {fu : Func} {bd : Code} {f : Bool → Int → Int → Int → Int} (hfn : P.funcs[fn]? = some fu) (hnm : (fu.name == "runtime.NumGoroutine") = false) (hbd : fu.body = some bd) (hW : TableOk P fn f)
  {e e3 : TypeId} {g : GT l e3 → Int} {g' : Int → GT l e3} {h : List Int → GT l e} (hnum : (XT l).num e3 = some (.i64, g)) (hg : ∀ n, g (g' n) = n) (henc : ∀ ys, (KT l).enc e false (h ys) = [T.sl false false e3 (ys.map g')]) :
  Con P (KT l) fn (Q1Q (β := β) l [.lend, .lend] [.one (.b (.b (.b (.b (.sl false false e3))))), .one (.b (.b (.b (.b (.sl false false e3)))))] ⟨[.one (.b (.b (.b (.b (.sl false false e)))))], [none, none]⟩ (fun x => (tableC f (List.map g x.1) (List.map g x.2)).map (List.map h))) := by
 refine ⟨?_, fun t g h => nomatch (show (none : Option (TypeId × Nat)) = some (t, g) from h)⟩
 intro tvs k b hh
 obtain ⟨x, h1, h2⟩ := Z52.1 hh
 obtain ⟨y, h3, h4⟩ := Z52.1 h2
 refine ⟨Q1M l ⟨[.one (.b (.b (.b (.b (.sl false false e)))))], [none, none]⟩ y, fun k' => by simp only [Q1Q, h1, Z0]; exact congrArg (fun z => Option.bind z fun y => k' (Q1M l ⟨[.one (.b (.b (.b (.b (.sl false false e)))))], [none, none]⟩ y)) h3, fun w A args Lb hT hnd hL hA => ?_⟩
 rw [← Q3j h1] at hT
 suffices key : ∀ (xs ys : List (GT l e3)) (y : List (GT l e)), (tableC f (List.map g xs) (List.map g ys)).map (List.map h) = some y → TvRs (KT l) w A [.one (.sl false false e3 xs), .one (.sl false false e3 ys)] args Lb → CallsF P fn args.toArray w (Post (KT l) w A Lb args (Q1M l ⟨[.one (.b (.b (.b (.b (.sl false false e)))))], [none, none]⟩ y)) from key x.1 x.2 y h3 hT
 clear hT h3 h4 h2 h1 hh
 intro xs ys y h3 hT
 obtain ⟨zs, h5, rfl⟩ := Option.map_eq_some_iff.1 h3
 clear h3
 unfold tableC at h5
 replace h5 := Q0a h5
 obtain ⟨hc, h5⟩ := h5
 cases h5
 rw [Z4, decide_eq_true_eq, decide_eq_true_eq] at hc
 cases hT with
 | @cons _ v _ vs L1 L2 ha hr =>
  cases ha with
  | one ha =>
   cases hr with
   | @cons _ u _ us L3 L4 hb2 hr2 =>
    cases hr2
    cases hb2 with
    | one hb2 =>
     cases ha with
     | ro ha =>
      cases hb2 with
      | ro hb2 =>
       obtain ⟨a, ca, rfl, ka⟩ := ro_num hnum ha
       obtain ⟨b, cb, rfl, kb⟩ := ro_num hnum hb2
       obtain ⟨X, hX⟩ : ∃ X, X = List.map g xs := ⟨_, rfl⟩
       obtain ⟨Y, hY⟩ : ∃ Y, Y = List.map g ys := ⟨_, rfl⟩
       rw [← hX] at ka hc ⊢
       rw [← hY] at kb hc ⊢
       have inA : ∀ (a : Option Addr) (X : List Int), (∀ (j : Nat) (u : Value), (X.map (Value.int .i64))[j]? = some u → ∃ ad, a = some ad ∧ w.cell? (ad.add j) = some u) → InInts w a X.length (fun i => X.getD i 0) := fun a X k i hi => by
        obtain ⟨ad, e1, e2⟩ := k i (.int .i64 (X.getD i 0)) (by rw [Z11, Z3 hi, Z9, Z3 hi]; rfl)
        exact ⟨ad, e1, e2⟩
       have hcall := hW a b X.length Y.length ca cb (fun i => X.getD i 0) (fun i => Y.getD i 0) (tabZ f X Y) w hc.1 hc.2 (inA a X ka) (inA b Y kb) (tabZ_row f X Y) (tabZ_col f X Y) (tabZ_at f X Y)
       refine CallsF.of_calls hfn hnm hbd ?_
       refine Calls.mono hcall fun e' w' hh => ?_
       obtain ⟨rfl, hw⟩ := hh
       have hsz := hw.size
       obtain ⟨A', hA'⟩ : ∃ A' : Nat → Prop, A' = fun b => A b ∨ (w.heap.size ≤ b ∧ b < w'.heap.size) := ⟨_, rfl⟩
       have row : ∀ i, i ≤ X.length → Ro (KT l) w' A' (.sl false false e3 (((Q0x f X Y).getD i []).map g')) (.slice (some ⟨w.heap.size + 1 + (X.length - i), 0, none⟩) (Y.length + 1) (Y.length + 1)) := fun i hi => by
        have hl := Q4Q f X Y i hi
        refine .sl (by rw [Z1, hl]) (Z7 _) (vs := ((Q0x f X Y).getD i []).map (Value.int .i64)) ?_ fun j u hu => ⟨_, rfl, ?_, ?_⟩
        ·rw [Q3H hnum, show (((Q0x f X Y).getD i []).map g').map g = (Q0x f X Y).getD i [] by rw [Z23, show (g ∘ g') = id from funext hg, Z86]]; exact roL_ints _
        ·rw [hA']; exact .inr ⟨by show w.heap.size ≤ w.heap.size + 1 + (X.length - i); omega, by show w.heap.size + 1 + (X.length - i) < _; omega⟩
        ·rw [Z11] at hu
         cases hj : ((Q0x f X Y).getD i [])[j]? with
         | none => rw [hj] at hu; cases hu
         | some z =>
          rw [hj] at hu; cases hu
          have hjl := (Z107.1 hj).1
          have hz : tabZ f X Y i j = z := by unfold tabZ; rw [Z9, hj]; rfl
          have := hw.row i hi j (by omega)
          rw [hz] at this
          rw [add_lit, Z25]; exact this
       have all : Ro (KT l) w' A' (.sl false false e ((Q0x f X Y).map h)) (.slice (some ⟨w.heap.size, 0, none⟩) (X.length + 1) (X.length + 1)) := by
        refine .sl (by rw [Z1, Q47]) (Z7 _) (vs := (List.range (X.length + 1)).map fun i => .slice (some ⟨w.heap.size + 1 + (X.length - i), 0, none⟩) (Y.length + 1) (Y.length + 1)) ?_ fun j u hu => ⟨_, rfl, ?_, ?_⟩
        ·have hcells : cells (KT l) false e ((Q0x f X Y).map h) = (List.range (X.length + 1)).map fun i => T.sl false false e3 (((Q0x f X Y).getD i []).map g') := by
          rw [cells, Z23]
          have : ∀ tb : List (List Int), (tb.map ((KT l).enc e false ∘ h)).flatten = tb.map fun r => T.sl false false e3 (r.map g') := fun tb => by
           induction tb with
           | nil => rfl
           | cons r tb ih => rw [Z16, Z44, ih, Function.comp_apply, henc]; rfl
          rw [this]
          refine Z75 (by simp [Q47]) fun i h1 h2 => ?_
          simp only [Z87, List.getElem_range]
          rw [Z9, Z3 (by simpa using h1)]; rfl
         rw [hcells]
         have : ∀ is : List Nat, (∀ i ∈ is, i ≤ X.length) → RoL (KT l) w' A' (is.map fun i => T.sl false false e3 (((Q0x f X Y).getD i []).map g')) (is.map fun i => .slice (some ⟨w.heap.size + 1 + (X.length - i), 0, none⟩) (Y.length + 1) (Y.length + 1)) := fun is => by
          induction is with
          | nil => intro _; exact .nil
          | cons i is ih => intro hi; exact .cons (row i (hi i Z43)) (ih fun k hk => hi k (Z57 _ hk))
         exact this _ fun i hi => by have := Z50.1 hi; omega
        ·rw [hA']; exact .inr ⟨Z7 _, by show w.heap.size < _; omega⟩
        ·rw [Z11] at hu
         cases hj : (List.range (X.length + 1))[j]? with
         | none => rw [hj] at hu; cases hu
         | some z =>
          rw [hj] at hu; cases hu
          obtain ⟨hjl, hjz⟩ := Z107.1 hj
          rw [List.getElem_range] at hjz
          subst hjz
          rw [Z42] at hjl
          have := hw.top j (by omega)
          rw [add_lit, Z25]; exact this
       refine ⟨⟨A', [], [], fun b hb => by rw [hA']; exact .inl hb, fun b hb => ?_, .one (.one (.ro all)), .none (.none .nil), by simp, by simp⟩, hw.since.os, hw.since.tape, hw.since.output, hw.drawn, hw.since.size, fun b h1 _ => hw.since.block b h1⟩
       rw [hA'] at hb
       exact hb.imp id fun hb => ⟨.inr hb.1, hb.2⟩
end Go.Ev
