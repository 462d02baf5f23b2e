/- slices.Grow onto a row that is empty: by the shelf's contract. -/
import Derived.Test.YtmdkpcneakoagaaGreatEvC
import Derived.Shelf.Spec.SlicesGrow
set_option linter.unusedSimpArgs false
namespace Go.Ev
open Go.Shelf Go.Proofs
variable {l : Qy} {β : Type}
noncomputable def growF {α : Type} (bytes : Nat) (x : List α × Int) : Option (List α) := bif x.1.isEmpty && decide (0 ≤ x.2) && decide (x.2.toNat * bytes ≤ 140737488355328) && decide (x.2.toNat ≤ 4611686018427387904) then some x.1 else none
theorem Q4N {z : Value} {n : Nat} : (Builtin.zeroCells z.cells n).size = n * z.cells.size := by simp [Builtin.zeroCells]
theorem con_grow {P : Program} {ρ : Go.Shelf.Ren} (L : Lays8.n4 P ρ) {f : FuncId} (hf : ρ.f 4 = f) {e : TypeId} (he : ρ.t 25 = e) (hpos : 0 < (QR l e).length) {i0 : TypeInfo} {z : Value} (hi0 : P.info? e = some i0) (hz0 : i0.zero = some z) (hs0 : i0.size = (QR l e).length) (hzs : z.cells.size = i0.size) :
  Con P (KT l) f (Q1Q (β := β) l [.give, .lend] [.one (.b (.b (.b (.b (.sl true true e))))), .one (.b (.b (.b (.b (.int .i64)))))] ⟨[.one (.b (.b (.b (.b (.sl true true e)))))], [none, none]⟩ (fun x => growF i0.bytes x)) := by
 subst hf; subst he
 refine ⟨?_, fun t g h => nomatch (show (none : Option (TypeId × Nat)) = some (t, g) from h)⟩
 intro tvs k b h
 obtain ⟨x, h1, h2⟩ := Z52.1 h
 obtain ⟨y, h3, h4⟩ := Z52.1 h2
 refine ⟨Q1M l ⟨[.one (.b (.b (.b (.b (.sl true true (ρ.t 25))))))], [none, none]⟩ y, fun k' => by simp only [Q1Q, h1, Z0]; rw [show growF i0.bytes x = some y from h3]; rfl, fun w A args Lb hT hnd hL hA => ?_⟩
 rw [← Q3j h1] at hT
 suffices key : ∀ (xs : List (GT l (ρ.t 25))) (n : Int) (y : List (GT l (ρ.t 25))), growF i0.bytes (xs, n) = some y → TvRs (KT l) w A [.one (.sl true true (ρ.t 25) xs), .one (.int .i64 n)] args Lb → CallsF P (ρ.f 4) args.toArray w (Post (KT l) w A Lb args (Q1M l ⟨[.one (.b (.b (.b (.b (.sl true true (ρ.t 25))))))], [none, none]⟩ y)) from key x.1 x.2 y h3 hT
 clear hT h3 h4 h2 h1 h
 intro xs n y h3 hT
 unfold growF at h3
 replace h3 := Q0a h3
 obtain ⟨hc, h3⟩ := h3
 simp only [Z4, decide_eq_true_eq, List.isEmpty_iff] at hc
 obtain ⟨⟨⟨hx, hn⟩, hb⟩, h62⟩ := hc
 cases h3
 subst hx
 obtain ⟨m, rfl⟩ : ∃ m : Nat, n = m := ⟨n.toNat, by omega⟩
 rw [Z5] at hb h62
 -- the arguments
 cases hT with
 | @cons _ v _ vs L1 L2 ha hr =>
  cases ha with
  | one ha =>
   cases hr with
   | @cons _ u _ us L3 L4 hb2 hr2 =>
    cases hr2
    cases hb2 with
    | one hb2 =>
     cases hb2
     cases ha with
     | @sl _ _ _ _ vs Lc hrow hcl =>
      have hvs : vs = [] := by
       have := hrow.1
       simpa using this
      subst hvs
      have hLc : Lc = [] := by cases hcl; rfl
      subst hLc
      obtain ⟨nm, hnm, hfn⟩ := L.f4
      have hres : ∀ v' L' w', (∀ b ∈ L', b ∈ blk v ++ [] ++ [] ∨ w.heap.size ≤ b) → L'.Nodup → (∀ b ∈ L', b < w'.heap.size ∧ ¬ A b) → Own (KT l) w' A (.sl true true (ρ.t 25) []) v' L' → w'.os = w.os → w'.tape = w.tape → w'.output = w.output → w.drawn ≤ w'.drawn → w.heap.size ≤ w'.heap.size → (∀ b, b < w.heap.size → w'.heap[b]? = w.heap[b]?) → Post (KT l) w A (blk v ++ [] ++ ([] ++ [])) [v, .int .i64 (m : Int)] (Q1M l ⟨[.one (.b (.b (.b (.b (.sl true true (ρ.t 25))))))], [none, none]⟩ ([] : List (GT l (ρ.t 25)))) v' w' := by
       intro v' L' w' q1 q2 q3 q4 q5 q6 q7 q10 q8 q9
       refine ⟨⟨A, L', [], fun _ h => h, fun b h => .inl h, .one (.one q4), .none (.none .nil), by simpa using q2, fun b hb => ?_⟩, q5, q6, q7, q10, q8, fun b h1 _ => q9 b h1⟩
       have hb' : b ∈ L' := by simpa using hb
       exact ⟨(q3 b hb').1, (q3 b hb').2, by simpa using q1 b hb'⟩
      refine CallsF.of_calls hfn hnm rfl ?_
      have hrow2 := hrow.2
      have old : ∀ (hm : v = v), Own (KT l) w A (.sl true true (ρ.t 25) []) v (blk v ++ []) := fun _ => .sl hrow hcl
      have room : ∀ (a : Option Addr) (c : Nat), v = .slice a 0 c → c ≤ maxLen → m ≤ c → Calls P (ρ.f 4) [v, .int .i64 (m : Int)].toArray w fun | .returned v', w' => Post (KT l) w A (blk v ++ [] ++ ([] ++ [])) [v, .int .i64 (m : Int)] (Q1M l ⟨[.one (.b (.b (.b (.b (.sl true true (ρ.t 25))))))], [none, none]⟩ ([] : List (GT l (ρ.t 25)))) v' w' | _, _ => False := by
       intro a c hv hc hm
       have hcall := Any8.slices_Grow_room L a 0 c m w (Z20 _) (by unfold maxLen at hc; omega) (by omega) (by omega)
       rw [← hv] at hcall
       refine Calls.mono hcall fun e' w' h => ?_
       obtain ⟨rfl, hw'⟩ := h
       subst hw'
       exact hres v _ _ (fun b hb => .inl (by simpa using hb)) (by simpa using hnd) (fun b hb => by have := hL b (by simpa using hb); exact this) (old rfl) rfl rfl rfl (Z7 _) (Z7 _) (fun _ _ => rfl)
      have grow : ∀ (a : Option Addr) (c : Nat) (cs : List Value), v = .slice a 0 c → c < m → cs.length = c * i0.size → (a = none → c = 0) → (∀ ad, a = some ad → ∀ j u, cs[j]? = some u → w.cell? (ad.add j) = some u) → Calls P (ρ.f 4) [v, .int .i64 (m : Int)].toArray w fun | .returned v', w' => Post (KT l) w A (blk v ++ [] ++ ([] ++ [])) [v, .int .i64 (m : Int)] (Q1M l ⟨[.one (.b (.b (.b (.b (.sl true true (ρ.t 25))))))], [none, none]⟩ ([] : List (GT l (ρ.t 25)))) v' w' | _, _ => False := by
       intro a c cs hv hc hcl2 hnil hcs
       have hcall := Any8.slices_Grow_grow L i0 z hi0 hz0 (by omega) a 0 c m cs w (Z20 _) (by omega) (by rw [Z25]; exact hb) (by omega) hcl2 hnil hcs
       rw [← hv] at hcall
       refine Calls.mono hcall fun e' w' h => ?_
       obtain ⟨rfl, hw'⟩ := h
       obtain ⟨G, hG⟩ : ∃ G, G = grownCap w (0 + m) c (ρ.t 25) := ⟨_, rfl⟩
       have hGn : m ≤ G := by rw [hG]; have := grownCap_ge w (0 + m) c (ρ.t 25); omega
       have hGm : G ≤ maxLen := by rw [hG]; exact grownCap_le_maxLen w (0 + m) c (ρ.t 25) (by unfold maxLen; omega)
       rw [← hG] at hw' ⊢
       obtain ⟨cur, hcur⟩ : ∃ cur, cur = cs.toArray ++ Builtin.zeroCells z.cells (0 + m - c) ++ Builtin.zeroCells z.cells (G - (0 + m)) := ⟨_, rfl⟩
       rw [← hcur] at hw'
       have hsz : cur.size = G * (KT l).sz (ρ.t 25) := by
        show _ = G * (QR l (ρ.t 25)).length
        rw [hcur, Array.size_append, Array.size_append, Q4N, Q4N, hzs, List.size_toArray, hcl2, ← hs0, ← Z66, ← Z66]
        congr 1; omega
       have hheap : w'.heap[w.heap.size]? = some (.cells cur (ρ.t 25) (0, 0)) := by
        rw [hw']
        show (w.heap.push _)[w.heap.size]? = _
        simp
       have hsize : w'.heap.size = w.heap.size + 1 := by rw [hw']; show (w.heap.push _).size = _; simp
       refine hres _ [w.heap.size] w' (fun b hb => .inr (by simp at hb; omega)) (by simp) (fun b hb => ?_) ?_ (by rw [hw']; rfl) (by rw [hw']; rfl) (by rw [hw']; rfl) (by rw [hw']; exact Nat.le_succ _) (by omega) (fun b hb => ?_)
       ·have : b = w.heap.size := by simpa using hb
        exact ⟨by omega, fun h => by have := hA b h; omega⟩
       ·refine Own.sl (v := .slice (some ⟨w.heap.size, 0, none⟩) 0 G) (vs := []) (L := []) ⟨by simp, .inr ⟨w.heap.size, G, cur, rfl, Z20 _, hheap, Z20 _, hGm, hsz, by simp⟩⟩ .nil
       ·rw [hw']
        show (w.heap.push _)[b]? = _
        rw [Array.getElem?_push_lt hb, Z79 hb]
      rcases hrow2 with ⟨rfl, _⟩ | ⟨g, cap, cur, rfl, _, hg, _, hcm, hcs, _⟩
      ·by_cases hm : m = 0
       ·exact room none 0 rfl (Z20 _) (by omega)
       ·exact grow none 0 [] rfl (by omega) (by simp) (fun _ => rfl) (fun ad h => by cases h)
      ·by_cases hm : m ≤ cap
       ·exact room _ cap rfl hcm hm
       ·refine grow _ cap cur.toList rfl (by omega) (by rw [Z36, hcs]; show cap * (QR l (ρ.t 25)).length = _; rw [hs0]) (fun h => by cases h) (fun ad had j u hu => ?_)
        cases had
        have hadd : (⟨g, 0, none⟩ : Addr).add j = ⟨g, j, none⟩ := by unfold Addr.add; split <;> simp_all
        rw [hadd, cell_of_row w g j cur _ (0, 0) hg]
        simpa using hu
theorem con_grow2 {P : Program} {ρ : Go.Shelf.Ren} (L : Lays8.n4 P ρ) {f : FuncId} (hf : ρ.f 4 = f) {e : TypeId} (he : ρ.t 25 = e) {ty : TypeId → Option TyI} (hty : TyOk P (KT l) (XT l) ty) {i : TyI} (hi : ty e = some i) (hpos : 0 < (QR l e).length) (hsz : i.size = (QR l e).length) (hz : i.zero.length = i.size) :
  Con P (KT l) f (Q1Q (β := β) l [.give, .lend] [.one (.b (.b (.b (.b (.sl true true e))))), .one (.b (.b (.b (.b (.int .i64)))))] ⟨[.one (.b (.b (.b (.b (.sl true true e)))))], [none, none]⟩ (fun x => growF i.bytes x)) := by
 obtain ⟨inf, h1, h2, h3, z, h4, h5⟩ := (hty e i hi).info
 rw [← h3]
 exact con_grow L hf he hpos h1 h4 (h2.trans hsz) (by rw [← Z36, ← h5.length, hz, h2])
end Go.Ev
