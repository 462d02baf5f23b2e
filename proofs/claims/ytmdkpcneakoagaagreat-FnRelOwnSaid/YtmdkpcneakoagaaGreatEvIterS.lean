/- Iterators over slices: slices.AppendSeq, slices.Collect, slices.Sorted over a function value that reads a slice of strings. -/
import Derived.Test.YtmdkpcneakoagaaGreatEvIterC
import Derived.Shelf.SlIter.Sorted
set_option linter.unusedSimpArgs false
namespace Go.It
open Go Go.Proofs Go.RowKit Go.Maps Go.Sort Go.Shelf
variable {P : Program} {ρ : Ren}
set_option maxRecDepth 100000 in
set_option maxHeartbeats 2000000 in
theorem ItS.yield (L : SlLaysZ.n11 P ρ) (F : Fence) (m : Nat) (w0 : World) (fn : FuncId) (hfn : F.fn fn) (sv : Value) (Bs l D : Nat) (hBl : Bs ≠ l) (hDl : D ≠ l) (hDB : D ≠ Bs) (h0B : w0.heap.size ≤ Bs) (h0l : w0.heap.size ≤ l)
    (N : Nat) (hN : N ≤ maxLen) (hNb : N * 16 ≤ 140737488355328) (ss : List (List UInt8)) (x : List UInt8) (W : World) (h : AnyZ.ApAt ρ w0 fn sv Bs l D ss W) (hdr : w0.drawn ≤ W.drawn) (hlen : ss.length < N) :
    YieldAt F m P l #[encStr x] W fun e W' => e = .returned (.bool true) ∧ AnyZ.ApAt ρ w0 fn sv Bs l D (ss ++ [x]) W' ∧ w0.drawn ≤ W'.drawn := by
  have mixed := L.mixed; have t0 := L.t0; have a0 := L.a0; have z0 := L.z0; have v0 := L.v0; have t24 := L.t24; have a24 := L.a24; have z24 := L.z24; have v24 := L.v24; have t26 := L.t26; have a26 := L.a26; have z26 := L.z26; have v26 := L.v26; have t28 := L.t28; have a28 := L.a28; have z28 := L.z28; have v28 := L.v28
  have hne : ρ.t 24 ≠ ρ.t 26 := fun e => by have h := L.t24; rw [e, L.t26] at h; cases h
  have u0 := run_underlying L.t0; have u24 := run_underlying L.t24; have u26 := run_underlying L.t26; have u28 := run_underlying L.t28
  obtain ⟨i0, hi, hz0, hz1, hz2⟩ := info_parts L.i26
  obtain ⟨v, hv, hrow, _⟩ := h.box
  refine ⟨fn, #[.slice none 0 0, sv, .pointer (some ⟨Bs, 0, none⟩), undef, .slice none 0 0, undef, sv, encStr x, undef, undef, undef, undef, undef], AnyZ.apAssign ρ, AnyZ.apBody ρ, by simpa [AnyZ.apRec] using run_yield (P := P) (args := #[encStr x]) h.L rfl, roundIn_of_wpIn hfn ?_⟩
  have hl : l < W.heap.size := (Z72.1 h.L).1
  have hbr := run_beginRound (P := P) h.L rfl
  obtain ⟨W2, hW2⟩ : ∃ W2, W.putObj l (.loop { AnyZ.apRec ρ fn sv Bs D .ready none with state := .busy }) = W2 := ⟨_, rfl⟩
  rw [hW2] at hbr
  have hg2 : W.grownBy W2 (some l) := by rw [← hW2]; exact grownBy_putObj_a _ _ _
  have hd2 : w0.drawn ≤ W2.drawn := by rw [← hW2]; exact hdr
  have hv2 : W2.heap[Bs]? = some (.cells #[v] (ρ.t 24) (0, 0)) := by rw [← hW2]; exact (World.putObj_heap_other hBl).trans hv
  have hK2 : W2.heap[D]? = some (.deferred (some [])) := by rw [← hW2]; exact (World.putObj_heap_other hDl).trans h.K
  have hL2 : W2.heap[l]? = some (.loop { AnyZ.apRec ρ fn sv Bs D .ready none with state := .busy }) := by rw [← hW2]; exact World.putObj_heap_same hl
  have hrow2 : W2.ownsRow w0.heap.size (ρ.t 26) 1 v ss.length (ss.map encStr) := hrow.kept hg2 (ownsRow_ne_a hrow h.L (fun cur e => by first | cases e | exact hne (Obj.cells.inj e).2.1))
  have hb2 : Below w0.heap.size w0 W2 := h.below.grown hg2 h.below.size (fun k e => by cases e; exact h0l)
  obtain ⟨hc2, hf2⟩ := cell_of_box_a hv2
  have hBlt : Bs < W2.heap.size := (Z72.1 hv2).1
  have hl2 : l < W2.heap.size := (Z72.1 hL2).1
  have hDlt : D < W2.heap.size := (Z72.1 hK2).1
  have ne_of : ∀ {j : Nat} {o : Obj}, W2.heap[j]? = some o → (∀ cur, o ≠ .cells cur (ρ.t 26) (0, 0)) → some j ≠ v.ownBlock := fun hj hno => by
    rcases ownsRow_ne_a hrow2 hj hno with e | e
    · rw [e]; simp
    · exact fun e' => e e'.symm
  clear hW2
  unfold AnyZ.apAssign
  gi_wp2_with gi_round_op_a
  unfold AnyZ.apBody
  gi_wp2_with (first
    | (gi_at_builtin; refine Q4V _ rfl _ _ (ρ.t 24) rfl w0.heap.size (ρ.t 26) i0 (.string ⟨#[]⟩) 1 16 L.t24 hi hz0 hz1 hz2 rfl (by decide) _ _ _ rfl (hrow2.alloc _) ⟨W2.heap.size, 0, none⟩ 1 1 [encStr x] rfl rfl (cell_one_new _ _ _) (by simp [Value.oneCell', encStr]) (by omega) (by omega) (by have := hb2.size; simp; omega) ?_; intro v' w3 hown' hg3 hnil3 hd3
       have hv3 : w3.heap[Bs]? = some (.cells #[v] (ρ.t 24) (0, 0)) := (hg3.block Bs (by simp; omega) (ne_of hv2 (fun cur e => by first | cases e | exact hne (Obj.cells.inj e).2.1))).trans ((Below.heap_alloc _ _ Bs hBlt).trans hv2)
       obtain ⟨hc3, hf3⟩ := cell_of_box_a hv3
       obtain ⟨g', cap', cur', rfl, hbase', hgb', hr1, hr2, hr3, hr4⟩ : ∃ g' cap' cur', v' = .slice (some ⟨g', 0, none⟩) (ss.length + 1) cap' ∧ w0.heap.size ≤ g' ∧ w3.heap[g']? = some (.cells cur' (ρ.t 26) (0, 0)) ∧ ss.length + 1 ≤ cap' ∧ cap' ≤ maxLen ∧ cur'.size = cap' * 1 ∧ cur'.toList.take ((ss.length + 1) * 1) = ss.map encStr ++ [encStr x] := by
         rcases hown'.2 with ⟨_, h0⟩ | h'
         · exact absurd h0 (by omega)
         · exact h'
       go_frame)
    | gi_round_op_a)
  have hg3' : (W2.alloc (.cells #[encStr x] (ρ.t 26))).grownBy w3 v.ownBlock := hg3
  have hL3 : w3.heap[l]? = some (.loop { AnyZ.apRec ρ fn sv Bs D .ready none with state := .busy }) := (hg3'.block l (by simp; omega) (ne_of hL2 (fun cur e => by first | cases e | exact hne (Obj.cells.inj e).2.1))).trans ((Below.heap_alloc _ _ l hl2).trans hL2)
  have hK3 : w3.heap[D]? = some (.deferred (some [])) := (hg3'.block D (by simp; omega) (ne_of hK2 (fun cur e => by first | cases e | exact hne (Obj.cells.inj e).2.1))).trans ((Below.heap_alloc _ _ D hDlt).trans hK2)
  obtain ⟨w4, hw4⟩ : ∃ w4, w3.setCell ⟨Bs, 0, none⟩ (.slice (some ⟨g', 0, none⟩) (ss.length + 1) cap') = w4 := ⟨_, rfl⟩
  rw [hw4]
  have hg4 : w3.grownBy w4 (some Bs) := by rw [← hw4]; exact grownBy_setCell0_a _ _ _
  have hv4 : w4.heap[Bs]? = some (.cells #[.slice (some ⟨g', 0, none⟩) (ss.length + 1) cap'] (ρ.t 24) (0, 0)) := by rw [← hw4]; exact heap_setCell_box_a _ hv3
  have hL4 : w4.heap[l]? = some (.loop { AnyZ.apRec ρ fn sv Bs D .ready none with state := .busy }) := (hg4.block l (Z72.1 hL3).1 (fun e => hBl (by cases e; rfl))).trans hL3
  have hK4 : w4.heap[D]? = some (.deferred (some [])) := (hg4.block D (Z72.1 hK3).1 (fun e => hDB (by cases e; rfl))).trans hK3
  have hrow4 := hown'.kept hg4 (ownsRow_ne_a hown' hv3 (fun cur e => by first | cases e | exact hne (Obj.cells.inj e).2.1))
  have hl4 : l < w4.heap.size := (Z72.1 hL4).1
  have hb3 : Below w0.heap.size w0 w3 := (hb2.alloc hb2.size _).grown hg3' (by have := hb2.size; simp; omega) (fun k e => (hrow2.lt k e).1)
  have hb4 : Below w0.heap.size w0 w4 := hb3.grown hg4 hb3.size (fun k e => by cases e; exact h0B)
  have hd4 : w0.drawn ≤ w4.drawn := by rw [← hw4]; exact Z35 hd2 hd3
  clear hw4
  refine ⟨_, _, run_endRound none hL4, rfl, ⟨⟨_, (World.putObj_heap_other hBl).trans hv4, ?_, by simp⟩, World.putObj_heap_same hl4, (World.putObj_heap_other hDl).trans hK4, hb4.grown (grownBy_putObj_a _ _ _) hb4.size (fun k e => by cases e; exact h0l)⟩, hd4⟩
  have := hrow4.kept (grownBy_putObj_a w4 l (.loop { { AnyZ.apRec ρ fn sv Bs D .ready none with state := .busy } with state := if (none : Option Code).isNone then .ready else .done, pending := none })) (ownsRow_ne_a hrow4 hL4 (fun cur e => by first | cases e | exact hne (Obj.cells.inj e).2.1))
  simpa using this
set_option maxRecDepth 100000 in
set_option maxHeartbeats 2000000 in
theorem ItS.appendSeq (L : SlLaysZ.n11 P ρ) (F : Fence) (n : Nat) (h11 : F.fn (ρ.f 11)) (hro : F.round = none) (hn : 2 ≤ n) (g : Nat) (lb : Array Value) (hFg : F.fn g) (eg : ∀ args w, (callFunc g args).run P w = .ok (.enter g args) w)
  (S : List (List UInt8) → Prop) (N : Nat) (hN : N ≤ maxLen) (hNb : N * 16 ≤ 140737488355328) (w : World) (hseq : SeqGivesB F (n - 1) P g lb encStr S N w) :
  CallsIn F n P (ρ.f 11) #[.slice none 0 0, .func (.func g) #[] lb] w fun e w' => ∃ (v : Value) (ss : List (List UInt8)), e = .returned v ∧ S ss ∧ w'.ownsRow w.heap.size (ρ.t 26) 1 v ss.length (ss.map encStr) ∧ (v = .slice none 0 0 ↔ ss = []) ∧ Below w.heap.size w w' ∧ w.drawn ≤ w'.drawn := by
 have h1 : 1 ≤ n := by omega
 have mixed := L.mixed; have t0 := L.t0; have a0 := L.a0; have z0 := L.z0; have v0 := L.v0; have t24 := L.t24; have a24 := L.a24; have z24 := L.z24; have v24 := L.v24; have t26 := L.t26; have a26 := L.a26; have z26 := L.z26; have v26 := L.v26; have t28 := L.t28; have a28 := L.a28; have z28 := L.z28; have v28 := L.v28
 have hne : ρ.t 24 ≠ ρ.t 26 := fun e => by have h := L.t24; rw [e, L.t26] at h; cases h
 have u0 := run_underlying L.t0; have u24 := run_underlying L.t24; have u26 := run_underlying L.t26; have u28 := run_underlying L.t28
 obtain ⟨_, _, FG⟩ := L.f11
 refine callsIn_of_wp_marks FG rfl h11 ?_ hro
 simp only [SlBodyZ.n11_ntmps ρ, List.size_toArray, Z2, Z6, Nat.reduceAdd, Nat.reduceSub, Array.replicate_succ, Array.replicate_zero, List.push_toArray, List.append_toArray, Z40, List.cons_append]
 gi_wp2
 refine wpIn_rangeFunc ?_
 intro fn hfn
 rw [hro]
 obtain ⟨W0, hW0⟩ : ∃ W0, w.alloc (.cells #[.slice none 0 0] (ρ.t 24)) = W0 := ⟨_, rfl⟩
 have hs0 : W0.heap.size = w.heap.size + 1 := by rw [← hW0]; simp
 have hv0 : W0.heap[w.heap.size]? = some (.cells #[.slice none 0 0] (ρ.t 24) (0, 0)) := by rw [← hW0]; exact World.alloc_heap_new w _
 have hb0 : Below w.heap.size w W0 := by rw [← hW0]; exact (Below.refl _ w).alloc (Z7 _) _
 rw [hW0]
 obtain ⟨W1, hW1⟩ : ∃ W1, (W0.alloc (.deferred (some []))).alloc (.loop (AnyZ.apRec ρ fn (.func (.func g) #[] lb) w.heap.size W0.heap.size .ready none)) = W1 := ⟨_, rfl⟩
 have hold : ∀ k, k < W0.heap.size → W1.heap[k]? = W0.heap[k]? := fun k hk => by
  rw [← hW1]; exact (Below.heap_alloc _ _ k (by simp; omega)).trans (Below.heap_alloc _ _ k hk)
 have hb1 : Below w.heap.size w W1 := by rw [← hW1]; exact (hb0.alloc hb0.size _).alloc (by have := hb0.size; simp; omega) _
 have hs1 : W1.heap.size = W0.heap.size + 2 := by rw [← hW1]; simp
 have hM : AnyZ.ApAt ρ w fn (.func (.func g) #[] lb) w.heap.size (W0.heap.size + 1) W0.heap.size [] W1 :=
  ⟨⟨_, (hold w.heap.size (by omega)).trans hv0, ⟨rfl, .inl ⟨rfl, rfl⟩⟩, by simp⟩,
   by rw [← hW1]; have := World.alloc_heap_new (W0.alloc (.deferred (some []))) (.loop (AnyZ.apRec ρ fn (.func (.func g) #[] lb) w.heap.size W0.heap.size .ready none)); rwa [World.size_alloc] at this,
   by rw [← hW1]; exact (Below.heap_alloc _ _ _ (by simp)).trans (World.alloc_heap_new W0 _), hb1⟩
 refine ⟨W0.heap.size + 1, [{ target := .collected W0.heap.size, args := #[] }], W1, { target := .fn (.func g) lb, args := #[.func (.yield (W0.heap.size + 1)) #[] #[]] }, W1, g,
  #[.func (.yield (W0.heap.size + 1)) #[] #[]] ++ lb, W1, ?_, ?_, ?_, ?_, fun _ => h1, ?_⟩
 ·rw [← hW1]; exact run_enterLoop_outer _ _ _ _ _
 ·simp [resolve, go_sem]
 ·intro f' hf'; simp [Target.leads] at hf'; subst hf'; exact hFg
 ·simp [invoke, go_sem, eg]
 ·refine (hseq (W0.heap.size + 1) (fun ss W => AnyZ.ApAt ρ w fn (.func (.func g) #[] lb) w.heap.size (W0.heap.size + 1) W0.heap.size ss W ∧ w.drawn ≤ W.drawn) W1 hb1 (fun _ _ h => h.1.below)
   (fun pre x W hJ hl => ItS.yield { L with } F (n - 1 - 1) w fn hfn _ w.heap.size (W0.heap.size + 1) W0.heap.size (by omega) (by omega) (by omega) (Z7 _) (by omega) N hN hNb pre x W hJ.1 hJ.2 hl) ⟨hM, by rw [← hW1, ← hW0]; exact Z7 _⟩).mono ?_
  rintro e W2 ⟨⟨v0, rfl⟩, ss, hS, h2, hd2⟩
  obtain ⟨v, hv, hrow, hnil⟩ := h2.box
  have hend := run_endLoop (P := P) h2.L (by simp [AnyZ.apRec])
  obtain ⟨W3, hW3⟩ : ∃ W3, W2.putObj (W0.heap.size + 1) (.loop { AnyZ.apRec ρ fn (.func (.func g) #[] lb) w.heap.size W0.heap.size .ready none with state := .exhausted }) = W3 := ⟨_, rfl⟩
  rw [hW3] at hend
  have hg3 : W2.grownBy W3 (some (W0.heap.size + 1)) := by rw [← hW3]; exact grownBy_putObj_a _ _ _
  have hv3 : W3.heap[w.heap.size]? = some (.cells #[v] (ρ.t 24) (0, 0)) := by rw [← hW3]; exact (World.putObj_heap_other (by omega)).trans hv
  have hK3 : W3.heap[W0.heap.size]? = some (.deferred (some [])) := by rw [← hW3]; exact (World.putObj_heap_other (by omega)).trans h2.K
  have hrow3 := hrow.kept hg3 (ownsRow_ne_a hrow h2.L (fun cur e => by first | cases e | exact hne (Obj.cells.inj e).2.1))
  have hb3 : Below w.heap.size w W3 := h2.below.grown hg3 h2.below.size (fun k e => by cases e; omega)
  obtain ⟨hc3, hf3⟩ := cell_of_box_a hv3
  have hd3 : w.drawn ≤ W3.drawn := by rw [← hW3]; exact hd2
  clear hW3
  refine ⟨none, W3, hend, ?_⟩
  gi_wp2
  rw [← hs0]
  refine ⟨by simp, .inl ⟨_, _, rfl, run_takeDeferred hK3, ?_⟩⟩
  exact ⟨_, results_tmp rfl _ _ _, v, ss, rfl, hS, hrow3.kept (grownBy_putObj_a _ _ _) (ownsRow_ne_a hrow3 hK3 (fun cur e => by first | cases e | exact hne (Obj.cells.inj e).2.1)), hnil, hb3.grown (grownBy_putObj_a _ _ _) hb3.size (fun k e => by cases e; omega), hd3⟩
set_option maxHeartbeats 1000000 in
theorem ItS.collect (L : SlLaysZ.n8 P ρ) (F : Fence) (n : Nat) (h8 : F.fn (ρ.f 8)) (h11 : F.fn (ρ.f 11)) (hro : F.round = none) (hn : 3 ≤ n) (g : Nat) (lb : Array Value) (hFg : F.fn g) (eg : ∀ args w, (callFunc g args).run P w = .ok (.enter g args) w)
  (S : List (List UInt8) → Prop) (N : Nat) (hN : N ≤ maxLen) (hNb : N * 16 ≤ 140737488355328) (w : World) (hseq : SeqGivesB F (n - 1 - 1) P g lb encStr S N w) :
  CallsIn F n P (ρ.f 8) #[.func (.func g) #[] lb] w fun e w' => ∃ (v : Value) (ss : List (List UInt8)), e = .returned v ∧ S ss ∧ w'.ownsRow w.heap.size (ρ.t 26) 1 v ss.length (ss.map encStr) ∧ (v = .slice none 0 0 ↔ ss = []) ∧ Below w.heap.size w w' ∧ w.drawn ≤ w'.drawn := by
 have h1 : 1 ≤ n := by omega
 have e11 : ∀ args w, (callFunc (ρ.f 11) args).run P w = .ok (.enter (ρ.f 11) args) w := L.f11.enters rfl
 have mixed := L.mixed; have t0 := L.t0; have a0 := L.a0; have z0 := L.z0; have v0 := L.v0; have t24 := L.t24; have a24 := L.a24; have z24 := L.z24; have v24 := L.v24; have t26 := L.t26; have a26 := L.a26; have z26 := L.z26; have v26 := L.v26; have t28 := L.t28; have a28 := L.a28; have z28 := L.z28; have v28 := L.v28
 have u0 := run_underlying L.t0; have u24 := run_underlying L.t24; have u26 := run_underlying L.t26; have u28 := run_underlying L.t28
 obtain ⟨_, _, FG⟩ := L.f8
 refine callsIn_of_wp FG rfl h8 ?_ hro
 simp only [SlBodyZ.n8_ntmps ρ, List.size_toArray, Z2, Z6, Nat.reduceAdd, Nat.reduceSub, Array.replicate_succ, Array.replicate_zero, List.push_toArray, List.append_toArray, Z40, List.cons_append]
 gi_wp2_with (gi_at_fn (ρ.f 11); refine (ItS.appendSeq { L with } F (n - 1) h11 hro (by omega) g lb hFg eg S N hN hNb _ hseq).mono ?_; rintro e w' ⟨v, ss, rfl, hS, hrow, hnil, hb, hd⟩)
 go_ret
 exact ⟨v, ss, rfl, hS, hrow, hnil, hb, hd⟩
set_option maxRecDepth 100000 in
set_option maxHeartbeats 2000000 in
theorem ItS.sorted (L : SlLaysZ.n6 P ρ) (F : Fence) (n : Nat) (h6 : F.fn (ρ.f 6)) (h8 : F.fn (ρ.f 8)) (h9 : F.fn (ρ.f 9)) (h11 : F.fn (ρ.f 11)) (hro : F.round = none) (hn : 4 ≤ n) (hsort : AnyZ.SortsIn P ρ F (n - 1)) (e9 : ∀ args w, (callFunc (ρ.f 9) args).run P w = .ok (.enter (ρ.f 9) args) w) (g : Nat) (lb : Array Value) (hFg : F.fn g) (eg : ∀ args w, (callFunc g args).run P w = .ok (.enter g args) w)
  (S : List (List UInt8) → Prop) (N : Nat) (hN : N ≤ maxLen) (hNb : N * 16 ≤ 140737488355328) (w : World) (hSN : ∀ ss, S ss → ss.length ≤ N) (hseq : SeqGivesB F (n - 1 - 1 - 1) P g lb encStr S N w) :
  CallsIn F n P (ρ.f 6) #[.func (.func g) #[] lb] w fun e w' => ∃ (v : Value) (ss : List (List UInt8)), e = .returned v ∧ S ss ∧
   w'.ownsRow w.heap.size (ρ.t 26) 1 v ss.length ((ss.mergeSort (fun x y => decide (x ≤ y))).map encStr) ∧ (v = .slice none 0 0 ↔ ss = []) ∧ Below w.heap.size w w' ∧ w.drawn ≤ w'.drawn := by
 have h1 : 1 ≤ n := by omega
 have e8 : ∀ args w, (callFunc (ρ.f 8) args).run P w = .ok (.enter (ρ.f 8) args) w := L.f8.enters rfl
 have mixed := L.mixed; have t0 := L.t0; have a0 := L.a0; have z0 := L.z0; have v0 := L.v0; have t24 := L.t24; have a24 := L.a24; have z24 := L.z24; have v24 := L.v24; have t26 := L.t26; have a26 := L.a26; have z26 := L.z26; have v26 := L.v26; have t28 := L.t28; have a28 := L.a28; have z28 := L.z28; have v28 := L.v28
 have u0 := run_underlying L.t0; have u24 := run_underlying L.t24; have u26 := run_underlying L.t26; have u28 := run_underlying L.t28
 obtain ⟨_, _, FG⟩ := L.f6
 refine callsIn_of_wp FG rfl h6 ?_ hro
 simp only [SlBodyZ.n6_ntmps ρ, List.size_toArray, Z2, Z6, Nat.reduceAdd, Nat.reduceSub, Array.replicate_succ, Array.replicate_zero, List.push_toArray, List.append_toArray, Z40, List.cons_append]
 gi_wp2_with (gi_at_fn (ρ.f 8); refine (ItS.collect { L with } F (n - 1) h8 h11 hro (by omega) g lb hFg eg _ N hN hNb _ hseq).mono ?_; rintro e W ⟨v, ss, rfl, hS, hrow, hnil, hb, hd⟩)
 have hlen := hSN ss hS
 rcases hrow.2 with ⟨rfl, hz⟩ | ⟨gb, cap, cur, rfl, hbase, hgb, r1, r2, r3, r4⟩
 ·-- nothing came: the nil slice is sorted and handed back
  have hss : ss = [] := Z69 hz
  subst hss
  gi_wp2_with (gi_at_fn (ρ.f 9); refine (hsort.2 none 0 W).mono ?_; rintro e w' ⟨rfl, rfl⟩)
  go_ret
  exact ⟨.slice none 0 0, [], rfl, hS, by simpa using hrow, by simp, hb, hd⟩
 ·have hH : Holds encStr W gb 0 ss.toArray := holds_of_block hgb (by simpa using r4)
  have hgl : gb < W.heap.size := (Z72.1 hgb).1
  have hsz : ss.length < 4611686018427387904 := by omega
  have cS := hsort.1 gb 0 cap ss W hH hgl hsz
  gi_wp2_with (gi_at_fn (ρ.f 9); refine cS.mono ?_; rintro e w' ⟨rfl, nn, os, rfl⟩)
  go_ret
  exact ⟨_, ss, rfl, hS, ownsRow_sorted (by simp) hbase hgb r1 r2 r3, hnil, hb.grown (grownBy_sorted _) hb.size (fun j hj => by cases hj; exact hbase), Z35 hd (Nat.le_add_right _ _)⟩
end Go.It
namespace Go.Ev
open Go Go.Proofs Go.RowKit Go.Sort Go.Shelf
variable {l : Qy} {β : Type}
noncomputable def sortedS {α : Type} (g : α → ByteArray) (xs : List α) : Option (List α) :=
 bif decide (xs.length ≤ 1000000000000) then some (xs.mergeSort fun x y => decide ((g x).data.toList ≤ (g y).data.toList)) else none
theorem str_cells {K : Cod (GT l)} {e : TypeId} {g : GT l e → ByteArray} (h : ∀ b x, K.enc e b x = [T.str (g x)]) (i : Bool) (xs : List (GT l e)) : cells K i e xs = (xs.map g).map T.str := by
 rw [cells]
 induction xs with
 | nil => rfl
 | cons x xs ih => rw [Z16, Z44, ih, h]; rfl
theorem RoL.strs {K : Cod (GT l)} {w : World} {A : Nat → Prop} : ∀ {ns : List ByteArray} {vs : List Value}, RoL K w A (ns.map T.str) vs → vs = ns.map Value.string
 | [], _, .nil => rfl
 | n :: ns, _, .cons h r => by cases h; rw [RoL.strs r]; rfl
theorem ownL_strs {K : Cod (GT l)} {w : World} {A : Nat → Prop} : ∀ ns : List ByteArray, OwnL K w A (ns.map T.str) (ns.map Value.string) []
 | [] => .nil
 | n :: ns => OwnL.cons (L := []) (.str n) (ownL_strs ns)
theorem ba_eta (s : ByteArray) : (⟨s.data.toList.toArray⟩ : ByteArray) = s := by
 cases s; simp
theorem map_encStr (ns : List ByteArray) : (ns.map fun s => s.data.toList).map encStr = ns.map Value.string := by
 rw [Z23]
 exact Z45 fun s _ => congrArg Value.string (ba_eta s)
theorem con_sortedS {P : Program} {ρ : Go.Shelf.Ren} (L : SlLaysZ.n6 P ρ) (hsort : ∀ m, AnyZ.SortsIn P ρ Fence.wide m) (e9 : ∀ args w, (callFunc (ρ.f 9) args).run P w = .ok (.enter (ρ.f 9) args) w) {f : FuncId} (hf : ρ.f 6 = f) {e : TypeId} (he : ρ.t 26 = e) {g : GT l e → ByteArray} (hnum : ∀ b x, (KT l).enc e b x = [T.str (g x)])
  {gf tb : Nat} (hV : It.ValsOk P gf (fun x : List UInt8 => encStr x)) (eg : ∀ args w, (callFunc gf args).run P w = .ok (.enter gf args) w) :
  Con P (KT l) f (Q1Q (β := β) l [.lend] [.one (.fn gf [.ptr false tb [.b (.b (.sl false false e))]])] ⟨[.one (.b (.b (.b (.b (.sl true true e)))))], [none]⟩ (sortedS g)) := by
 subst hf; subst he
 refine ⟨?_, fun t g h => nomatch (show (none : Option (TypeId × Nat)) = some (t, g) from h)⟩
 intro tvs k b h
 obtain ⟨x, h1, h2⟩ := Z52.1 h
 obtain ⟨y, h3, h4⟩ := Z52.1 h2
 refine ⟨Q1M l ⟨[.one (.b (.b (.b (.b (.sl true true (ρ.t 26))))))], [none]⟩ y, fun k' => by simp only [Q1Q, h1, Z0]; exact congrArg (fun z => Option.bind z fun y => k' (Q1M l ⟨[.one (.b (.b (.b (.b (.sl true true (ρ.t 26))))))], [none]⟩ y)) h3, fun w A args Lb hT hnd hL hA => ?_⟩
 rw [← Q3j h1] at hT
 suffices key : ∀ (xs ys : List (GT l (ρ.t 26))), sortedS g xs = some ys → TvRs (KT l) w A [.one (.fn gf [.ptr false tb [.sl false false (ρ.t 26) xs]])] args Lb → CallsF P (ρ.f 6) args.toArray w (Post (KT l) w A Lb args (Q1M l ⟨[.one (.b (.b (.b (.b (.sl true true (ρ.t 26))))))], [none]⟩ ys)) from key x y h3 hT
 clear hT h3 h4 h2 h1 h
 intro xs ys h3 hT
 unfold sortedS at h3
 replace h3 := Q0a h3
 obtain ⟨hc, h3⟩ := h3
 have hlen := of_decide_eq_true hc
 cases h3
 cases hT with
 | @cons _ v _ vs L1 L2 ha hr =>
  cases hr
  cases ha with
  | one ha =>
   cases ha with
   | fn ha =>
    cases ha with
    | @fn _ _ cvs hcvs =>
     cases hcvs with
     | cons hp hn =>
      cases hn
      cases hp with
      | @ptr _ _ _ pb bvs hbr hbv =>
       cases hbr with
       | @cons _ u _ us hsl hn2 =>
        cases hn2
        have hb0 := hbv 0 u rfl
        cases hsl with
        | @sl _ _ _ _ a n cap es hl hcap hres hes =>
         subst hl
         rw [str_cells hnum] at hres
         have hev : es = (xs.map g).map Value.string := hres.strs
         subst hev
         have hadd0 : pb.add 0 = pb := by unfold Addr.add; rw [if_pos rfl]
         rw [hadd0] at hb0
         have hpb : pb.block < w.heap.size := hA _ hb0.1
         have hg := It.gives hV Fence.wide 1 trivial rfl (Z7 _) w pb hpb ((xs.map g).map fun s => s.data.toList) a cap (by rw [Z1, Z1]; omega) (by rw [Z1, Z1]; exact hb0.2) (fun j u hu => by
          rw [map_encStr] at hu
          obtain ⟨ad, e1, e2, e3⟩ := hes j u hu
          exact ⟨ad, e1, hA _ e2, e3⟩)
         have hS := It.ItS.sorted L Fence.wide 4 trivial trivial trivial trivial rfl (Z7 _) (hsort _) e9 gf #[.pointer (some pb)] trivial eg (fun ys => ys = (xs.map g).map fun s => s.data.toList) ((xs.map g).map fun s => s.data.toList).length (by rw [Z1, Z1]; unfold maxLen; omega) (by rw [Z1, Z1]; omega) w (fun ss h => by rw [h]; exact Z7 _) hg
         obtain ⟨nm, hnm, hfn⟩ := L.f6
         refine CallsF.of_calls hfn hnm rfl ((callsIn_wide.1 hS).mono ?_)
         rintro e' w' ⟨v', ss, rfl, rfl, hrow, hnil, hbel, hdr⟩
         have hys : (((xs.mergeSort fun x y => decide ((g x).data.toList ≤ (g y).data.toList)).map g).map fun s => s.data.toList) = ((xs.map g).map fun s => s.data.toList).mergeSort fun x y => decide (x ≤ y) := by
          rw [Z23, Z23]
          exact List.map_mergeSort (f := fun x => (g x).data.toList) (fun a _ b _ => rfl)
         have hl2 : (xs.mergeSort fun x y => decide ((g x).data.toList ≤ (g y).data.toList)).length = xs.length := List.length_mergeSort _
         rw [Z1, Z1] at hrow
         have hOwn : Own (KT l) w' A (.sl true true (ρ.t 26) (xs.mergeSort fun x y => decide ((g x).data.toList ≤ (g y).data.toList))) v' (blk v' ++ []) := by
          refine Own.sl (vs := ((xs.mergeSort fun x y => decide ((g x).data.toList ≤ (g y).data.toList)).map g).map Value.string) ?_ (by rw [str_cells hnum]; exact ownL_strs _)
          rw [hl2, ← map_encStr, hys]
          by_cases hx : xs = []
          ·subst hx
           obtain rfl := hnil.2 rfl
           simp only [Z59, List.mergeSort_nil]
           exact World.ownsRow_nil w' 0 _ _
          ·have hsz : (KT l).sz (ρ.t 26) = 1 := by
            have := (KT l).len (ρ.t 26) false (xs.head hx)
            rw [hnum] at this; simpa using this.symm
           rw [hsz]
           exact ownsRow_base_a hrow (Z20 _)
         have hblk : ∀ b ∈ blk v', w.heap.size ≤ b ∧ b < w'.heap.size := by
          intro b hb
          rcases hrow.2 with ⟨rfl, _⟩ | ⟨gb, cap', cur, rfl, hbase, hgb, _⟩
          ·simp [blk] at hb
          ·have : b = gb := by simpa [blk] using hb
           subst this
           exact ⟨hbase, (Z72.1 hgb).1⟩
         refine ⟨⟨A, blk v' ++ [], [], fun _ h => h, fun b h => .inl h, .one (.one hOwn), .none .nil, ?_, fun b hb => ?_⟩, hbel.os, hbel.tape, hbel.output, hdr, hbel.size, fun b h1 _ => hbel.block b h1⟩
         ·cases v' with
          | slice a n c => cases a <;> simp [blk]
          | _ => simp [blk]
         ·have hb := hblk b (by simpa using hb)
          exact ⟨hb.2, fun h => by have := hA b h; omega, .inr hb.1⟩
end Go.Ev
