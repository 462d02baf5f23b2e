/- The contracts of slices.Values and slices.Sorted over it, at slices of ints. -/
import Derived.Test.YtmobcecmjpfpiaaEvIterI
import Derived.Shelf.SortM.Plain
import Derived.Shelf.SortM.SortNone
import Derived.Ground.GgzProg
import Derived.Ground.SlgmProg
namespace Go.It
open Go Go.Proofs Go.RowKit Go.Maps Go.Sort Go.Shelf

/-- A closure that gives the elements of the slice in its box. -/
def ValsOk {α : Type} (P : Program) (gf : Nat) (encE : α → Value) : Prop :=
  (∀ (F : Fence) (n : Nat) (_ : F.fn gf) (_ : F.round = none) (_ : 1 ≤ n) (l len cap : Nat) (pb ad : Addr) (enc : Nat → α) (_ : len * 8 ≤ 140737488351232) (J : List α → World → Prop) (W : World) (_ : W.cell? pb = some (.slice (some ad) len cap))
    (_ : ∀ s W', J s W' → ∀ j, j < len → W'.cell? (ad.add j) = some (encE (enc j)))
    (_ : ∀ pre x W1, J pre W1 → pre.length < len → YieldAt F (n - 1) P l #[encE x] W1 fun e W' => e = .returned (.bool true) ∧ J (pre ++ [x]) W') (_ : J [] W),
    CallsIn F n P gf #[.func (.yield l) #[] #[], .pointer (some pb)] W fun e W' => (∃ v, e = .returned v) ∧ J ((List.range len).map enc) W') ∧
  ∀ (F : Fence) (n : Nat) (_ : F.fn gf) (_ : F.round = none) (l cap : Nat) (a : Option Addr) (pb : Addr) (J : List α → World → Prop) (W : World) (_ : W.cell? pb = some (.slice a 0 cap)) (_ : J [] W),
    CallsIn F n P gf #[.func (.yield l) #[] #[], .pointer (some pb)] W fun e W' => (∃ v, e = .returned v) ∧ J [] W'

theorem boxes_of {P : Program} {f t g : Nat} {fn : Func} (hf : P.funcs[f]? = some fn) (hn : (fn.name == "runtime.NumGoroutine") = false) {bd : Code} (hb : fn.body = some bd)
    (h : ∀ v w, Calls P f #[v] w fun e w' => e = .returned (.func (.func g) #[] #[.pointer (some ⟨w.heap.size, 0, none⟩)]) ∧ w' = w.alloc (.cells v.cells t)) : Go.Ev.Boxes P f t g := by
  intro v w
  refine Go.Ev.CallsF.of_calls hf hn hb ((h v w).mono ?_)
  rintro e w' ⟨rfl, rfl⟩
  exact ⟨rfl, rfl⟩

theorem gives {α : Type} {P : Program} {gf : Nat} {encE : α → Value} (hV : ValsOk P gf encE) (F : Fence) (n : Nat) (hf : F.fn gf) (hro : F.round = none) (hn : 1 ≤ n) (w : World) (pb : Addr) (hpb : pb.block < w.heap.size) (xs : List α) (a : Option Addr) (cap : Nat)
    (hr : xs.length * 8 ≤ 140737488351232) (hbox : w.cell? pb = some (.slice a xs.length cap)) (hc : ∀ j u, (xs.map encE)[j]? = some u → ∃ ad, a = some ad ∧ ad.block < w.heap.size ∧ w.cell? (ad.add j) = some u) :
    SeqGivesB F n P gf #[.pointer (some pb)] encE (fun ys => ys = xs) xs.length w := by
  intro l J W hW hJB hY h0
  have hbW := (hW.cell (p := pb) hpb).trans hbox
  by_cases hx : xs = []
  · subst hx
    refine (hV.2 F n hf hro l cap a pb J W hbW h0).mono fun e W' h => ⟨h.1, [], rfl, h.2⟩
  · obtain ⟨ad, rfl, hab, _⟩ := hc 0 _ (by rw [List.getElem?_map, List.getElem?_eq_getElem (List.length_pos_iff.2 hx)]; rfl)
    refine (hV.1 F n hf hro hn l xs.length cap pb ad (fun j => xs.getD j (xs.head hx)) hr J W hbW (fun s W' hJ j hj => ?_) hY h0).mono fun e W' h => ⟨h.1, xs, rfl, ?_⟩
    · obtain ⟨ad', e, _, hcj⟩ := hc j (encE xs[j]) (by rw [List.getElem?_map, List.getElem?_eq_getElem hj]; rfl)
      cases e
      rw [((hJB s W' hJ).cell (p := ad.add j) (by rw [Go.Ev.add_block]; exact hab)).trans hcj]
      simp [List.getD_eq_getElem?_getD, hj]
    · have : (List.range xs.length).map (fun j => xs.getD j (xs.head hx)) = xs := by
        refine List.ext_getElem (by simp) fun i h1 h2 => ?_
        simp [List.getD_eq_getElem?_getD, h2]
      rw [← this]; exact h.2
end Go.It
namespace Go.Ev
open Go Go.Proofs Go.RowKit Go.Shelf
variable {l : Table} {β : Type}
noncomputable def sortedF {α : Type} (g : α → Int) (xs : List α) : Option (List α) :=
  bif decide (xs.length ≤ 1000000000000) then some (xs.mergeSort fun x y => decide (g x ≤ g y)) else none
theorem ownL_intsI {K : Cod (GT l)} {w : World} {A : Nat → Prop} {k : IntKind} : ∀ ns : List Int, OwnL K w A (ns.map (T.int k)) (ns.map (Value.int k)) []
  | [] => .nil
  | n :: ns => OwnL.cons (L := []) (.int k n) (ownL_intsI ns)
theorem con_sorted {P : Program} {ρ : Go.Shelf.Ren} (L : SlLaysZI.n6 P ρ) (hsort : ∀ m, AnyZI.SortsIn P ρ Fence.wide m) (e9 : ∀ args w, (callFunc (ρ.f 9) args).run P w = .ok (.enter (ρ.f 9) args) w) {f : FuncId} (hf : ρ.f 6 = f) {e : TypeId} (he : ρ.t 26 = e) {g : GT l e → Int} (hnum : (XT l).num e = some (.i64, g))
    {gf tb : Nat} (hV : It.ValsOk P gf (fun x : Int => Value.int .i64 x)) (eg : ∀ args w, (callFunc gf args).run P w = .ok (.enter gf args) w) :
    Con P (KT l) f (calleeS (β := β) l [.lend] [.one (.fn gf [.ptr false tb [.b (.b (.sl false false e))]])] ⟨[.one (.b (.b (.b (.b (.sl true true e)))))], [none]⟩ (sortedF g)) := by
  subst hf; subst he
  refine ⟨?_, fun t g h => nomatch (show (none : Option (TypeId × Nat)) = some (t, g) from h)⟩
  intro tvs k b h
  obtain ⟨x, h1, h2⟩ := Option.bind_eq_some_iff.1 h
  obtain ⟨y, h3, h4⟩ := Option.bind_eq_some_iff.1 h2
  refine ⟨encRes l ⟨[.one (.b (.b (.b (.b (.sl true true (ρ.t 26))))))], [none]⟩ y, fun k' => by simp only [calleeS, h1, Option.bind_some]; exact congrArg (fun z => Option.bind z fun y => k' (encRes l ⟨[.one (.b (.b (.b (.b (.sl true true (ρ.t 26))))))], [none]⟩ y)) h3, fun w A args Lb hT hnd hL hA => ?_⟩
  rw [← args_ok h1] at hT
  suffices key : ∀ (xs ys : List (GT l (ρ.t 26))), sortedF g xs = some ys → TvRs (KT l) w A [.one (.fn gf [.ptr false tb [.sl false false (ρ.t 26) xs]])] args Lb → CallsF P (ρ.f 6) args.toArray w (Post (KT l) w A Lb args (encRes l ⟨[.one (.b (.b (.b (.b (.sl true true (ρ.t 26))))))], [none]⟩ ys)) from key x y h3 hT
  clear hT h3 h4 h2 h1 h
  intro xs ys h3 hT
  unfold sortedF at h3
  replace h3 := bif_some h3
  obtain ⟨hc, h3⟩ := h3
  have hlen := of_decide_eq_true hc
  cases h3
  cases hT with
  | @cons _ v _ vs L1 L2 ha hr =>
    cases hr
    cases ha with
    | one ha =>
      cases ha with
      | fn ha =>
        cases ha with
        | @fn _ _ cvs hcvs =>
          cases hcvs with
          | cons hp hn =>
            cases hn
            cases hp with
            | @ptr _ _ _ pb bvs hbr hbv =>
              cases hbr with
              | @cons _ u _ us hsl hn2 =>
                cases hn2
                have hb0 := hbv 0 u rfl
                cases hsl with
                | @sl _ _ _ _ a n cap es hl hcap hres hes =>
                  subst hl
                  rw [num_cells hnum] at hres
                  have hev : es = (xs.map g).map (Value.int .i64) := hres.ints
                  subst hev
                  have hadd0 : pb.add 0 = pb := by unfold Addr.add; rw [if_pos rfl]
                  rw [hadd0] at hb0
                  have hpb : pb.block < w.heap.size := hA _ hb0.1
                  have hg := It.gives hV Fence.wide 1 trivial rfl (Nat.le_refl _) w pb hpb (xs.map g) a cap (by rw [List.length_map]; omega) (by rw [List.length_map]; exact hb0.2) (fun j u hu => by
                    obtain ⟨ad, e1, e2, e3⟩ := hes j u hu
                    exact ⟨ad, e1, hA _ e2, e3⟩)
                  have hS := It.ItI.sorted L Fence.wide 4 trivial trivial trivial trivial rfl (Nat.le_refl _) (hsort _) e9 gf #[.pointer (some pb)] trivial eg (fun ys => ys = xs.map g) (xs.map g).length (by rw [List.length_map]; unfold maxLen; omega) (by rw [List.length_map]; omega) w (fun ss h => by rw [h]; exact Nat.le_refl _) hg
                  obtain ⟨nm, hnm, hfn⟩ := L.f6
                  refine CallsF.of_calls hfn hnm rfl ((callsIn_wide.1 hS).mono ?_)
                  rintro e' w' ⟨v', ss, rfl, rfl, hrow, hnil, hbel, hdr⟩
                  have hys : (xs.mergeSort fun x y => decide (g x ≤ g y)).map g = (xs.map g).mergeSort fun x y => decide (x ≤ y) := List.map_mergeSort (f := g) (fun a _ b _ => rfl)
                  have hl2 : (xs.mergeSort fun x y => decide (g x ≤ g y)).length = xs.length := List.length_mergeSort _
                  rw [List.length_map] at hrow
                  have hOwn : Own (KT l) w' A (.sl true true (ρ.t 26) (xs.mergeSort fun x y => decide (g x ≤ g y))) v' (blk v' ++ []) := by
                    refine Own.sl (vs := ((xs.mergeSort fun x y => decide (g x ≤ g y)).map g).map (Value.int .i64)) ?_ (by rw [num_cells hnum]; exact ownL_intsI _)
                    rw [hl2, hys]
                    by_cases hx : xs = []
                    · subst hx
                      obtain rfl := hnil.2 rfl
                      rw [List.map_nil, List.mergeSort_nil]
                      exact World.ownsRow_nil w' 0 _ _
                    · have hsz : (KT l).sz (ρ.t 26) = 1 := num_sz hnum (xs.head hx)
                      rw [hsz]
                      exact ownsRow_base_a hrow (Nat.zero_le _)
                  have hblk : ∀ b ∈ blk v', w.heap.size ≤ b ∧ b < w'.heap.size := by
                    intro b hb
                    rcases hrow.2 with ⟨rfl, _⟩ | ⟨gb, cap', cur, rfl, hbase, hgb, _⟩
                    · simp [blk] at hb
                    · have : b = gb := by simpa [blk] using hb
                      subst this
                      exact ⟨hbase, (Array.getElem?_eq_some_iff.1 hgb).1⟩
                  refine ⟨⟨A, blk v' ++ [], [], fun _ h => h, fun b h => .inl h, .one (.one hOwn), .none .nil, ?_, fun b hb => ?_⟩, hbel.os, hbel.tape, hbel.output, hdr, hbel.size, fun b h1 _ => hbel.block b h1⟩
                  · cases v' with
                    | slice a n c => cases a <;> simp [blk]
                    | _ => simp [blk]
                  · have hb := hblk b (by simpa using hb)
                    exact ⟨hb.2, fun h => by have := hA b h; omega, .inr hb.1⟩
end Go.Ev
