/- The contracts of slices.Values and slices.Sorted over it, at slices of ints. -/
import Derived.Test.YtmdkpcneakoagaaGreatEvIterI
import Derived.Shelf.SortM.Plain
import Derived.Shelf.SortM.SortNone
import Derived.Ground.GgzProg
import Derived.Ground.SlgmProg
set_option linter.unusedSimpArgs false
namespace Go.It
open Go Go.Proofs Go.RowKit Go.Maps Go.Sort Go.Shelf
def ValsOk {α : Type} (P : Program) (gf : Nat) (encE : α → Value) : Prop :=
 (∀ (F : Fence) (n : Nat) (_ : F.fn gf) (_ : F.round = none) (_ : 1 ≤ n) (l len cap : Nat) (pb ad : Addr) (enc : Nat → α) (_ : len * 8 ≤ 140737488351232) (J : List α → World → Prop) (W : World) (_ : W.cell? pb = some (.slice (some ad) len cap))
  (_ : ∀ s W', J s W' → ∀ j, j < len → W'.cell? (ad.add j) = some (encE (enc j)))
  (_ : ∀ pre x W1, J pre W1 → pre.length < len → YieldAt F (n - 1) P l #[encE x] W1 fun e W' => e = .returned (.bool true) ∧ J (pre ++ [x]) W') (_ : J [] W),
  CallsIn F n P gf #[.func (.yield l) #[] #[], .pointer (some pb)] W fun e W' => (∃ v, e = .returned v) ∧ J ((List.range len).map enc) W') ∧
 ∀ (F : Fence) (n : Nat) (_ : F.fn gf) (_ : F.round = none) (l cap : Nat) (a : Option Addr) (pb : Addr) (J : List α → World → Prop) (W : World) (_ : W.cell? pb = some (.slice a 0 cap)) (_ : J [] W),
  CallsIn F n P gf #[.func (.yield l) #[] #[], .pointer (some pb)] W fun e W' => (∃ v, e = .returned v) ∧ J [] W'
theorem boxes_of {P : Program} {f t g : Nat} {fn : Func} (hf : P.funcs[f]? = some fn) (hn : (fn.name == "runtime.NumGoroutine") = false) {bd : Code} (hb : fn.body = some bd)
  (h : ∀ v w, Calls P f #[v] w fun e w' => e = .returned (.func (.func g) #[] #[.pointer (some ⟨w.heap.size, 0, none⟩)]) ∧ w' = w.alloc (.cells v.cells t)) : Go.Ev.Boxes P f t g := by
 intro v w
 refine Go.Ev.CallsF.of_calls hf hn hb ((h v w).mono ?_)
 rintro e w' ⟨rfl, rfl⟩
 exact ⟨rfl, rfl⟩
theorem gives {α : Type} {P : Program} {gf : Nat} {encE : α → Value} (hV : ValsOk P gf encE) (F : Fence) (n : Nat) (hf : F.fn gf) (hro : F.round = none) (hn : 1 ≤ n) (w : World) (pb : Addr) (hpb : pb.block < w.heap.size) (xs : List α) (a : Option Addr) (cap : Nat)
  (hr : xs.length * 8 ≤ 140737488351232) (hbox : w.cell? pb = some (.slice a xs.length cap)) (hc : ∀ j u, (xs.map encE)[j]? = some u → ∃ ad, a = some ad ∧ ad.block < w.heap.size ∧ w.cell? (ad.add j) = some u) :
  SeqGivesB F n P gf #[.pointer (some pb)] encE (fun ys => ys = xs) xs.length w := by
 intro l J W hW hJB hY h0
 have hbW := (hW.cell (p := pb) hpb).trans hbox
 by_cases hx : xs = []
 ·subst hx
  refine (hV.2 F n hf hro l cap a pb J W hbW h0).mono fun e W' h => ⟨h.1, [], rfl, h.2⟩
 ·obtain ⟨ad, rfl, hab, _⟩ := hc 0 _ (by rw [Z11, Z3 (List.length_pos_iff.2 hx)]; rfl)
  refine (hV.1 F n hf hro hn l xs.length cap pb ad (fun j => xs.getD j (xs.head hx)) hr J W hbW (fun s W' hJ j hj => ?_) hY h0).mono fun e W' h => ⟨h.1, xs, rfl, ?_⟩
  ·obtain ⟨ad', e, _, hcj⟩ := hc j (encE xs[j]) (by rw [Z11, Z3 hj]; rfl)
   cases e
   rw [((hJB s W' hJ).cell (p := ad.add j) (by rw [Go.Ev.add_block]; exact hab)).trans hcj]
   simp [Z9, hj]
  ·have : (List.range xs.length).map (fun j => xs.getD j (xs.head hx)) = xs := by
    refine Z75 (by simp) fun i h1 h2 => ?_
    simp [Z9, h2]
   rw [← this]; exact h.2
end Go.It
namespace Go.Ev
open Go Go.Proofs Go.RowKit Go.Shelf
variable {l : Qy} {β : Type}
end Go.Ev
