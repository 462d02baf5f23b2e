/- A verified evaluator of function bodies, part 2: definitions and their soundness. -/
import Derived.Calls
import Derived.Lib.ConvBytes
import Derived.Orders
import Derived.Test.YtmdkpcneakoagaaGreatEvA
set_option linter.unusedVariables false
set_option linter.unusedSimpArgs false
/- Calls: what is handed over, what comes back. -/
namespace Go.Ev
variable {Γ : TypeId → Type} {K : Cod Γ} {β : Type}
inductive TvR (K : Cod Γ) (w : World) (A : Nat → Prop) : TV Γ → Value → List Nat → Prop
 | one {t v L} (h : Own K w A t v L) : TvR K w A (.one t) v L
 | agg {ts vs L} (h : OwnL K w A ts vs L) : TvR K w A (.agg ts) (.agg vs.toArray) L
inductive TvRs (K : Cod Γ) (w : World) (A : Nat → Prop) : List (TV Γ) → List Value → List Nat → Prop
 | nil : TvRs K w A [] [] []
 | cons {t v ts vs L L'} (h : TvR K w A t v L) (k : TvRs K w A ts vs L') : TvRs K w A (t :: ts) (v :: vs) (L ++ L')
inductive ResR (K : Cod Γ) (w : World) (A : Nat → Prop) : TV Γ → Value → List Nat → Prop
 | one {t v L} (h : TvR K w A t v L) : ResR K w A t v L
 | tup {ts vs L} (h : TvRs K w A ts vs L) : ResR K w A (.tup ts) (.tuple vs.toArray) L
inductive KeepR (K : Cod Γ) (w : World) (A : Nat → Prop) : List (Option (TV Γ)) → List Value → List Nat → Prop
 | nil : KeepR K w A [] [] []
 | none {ts v vs L} (k : KeepR K w A ts vs L) : KeepR K w A (none :: ts) (v :: vs) L
 | some {t v ts vs L L'} (h : TvR K w A t v L) (k : KeepR K w A ts vs L') : KeepR K w A (some t :: ts) (v :: vs) (L ++ L')
structure Post (K : Cod Γ) (w : World) (A : Nat → Prop) (L : List Nat) (args : List Value) (r : Res Γ) (v : Value) (w' : World) : Prop where
 ex : ∃ (A' : Nat → Prop) (Lr Lk : List Nat), (∀ b, A b → A' b) ∧ (∀ b, A' b → A b ∨ ((b ∈ L ∨ w.heap.size ≤ b) ∧ b < w'.heap.size)) ∧ ResR K w' A' r.1 v Lr ∧ KeepR K w' A' r.2 args Lk ∧ (Lr ++ Lk).Nodup ∧
  (∀ b ∈ Lr ++ Lk, b < w'.heap.size ∧ ¬ A' b ∧ (b ∈ L ∨ w.heap.size ≤ b))
 os : w'.os = w.os
 tape : w'.tape = w.tape
 output : w'.output = w.output
 drawn : w.drawn ≤ w'.drawn
 size : w.heap.size ≤ w'.heap.size
 block : ∀ b, b < w.heap.size → b ∉ L → w'.heap[b]? = w.heap[b]?
theorem Post.more {K : Cod Γ} {w : World} {A : Nat → Prop} {L L2 : List Nat} {args : List Value} {r : Res Γ} {v : Value} {w' : World} (h : Post K w A L args r v w') (hs : ∀ b ∈ L, b ∈ L2) : Post K w A L2 args r v w' :=
 ⟨let ⟨A', Lr, Lk, p1, p2, p3, p4, p5, p6⟩ := h.ex; ⟨A', Lr, Lk, p1, fun b hb => (p2 b hb).imp id fun h => ⟨h.1.imp (hs b) id, h.2⟩, p3, p4, p5, fun b hb => ⟨(p6 b hb).1, (p6 b hb).2.1, (p6 b hb).2.2.imp (hs b) id⟩⟩, h.os, h.tape, h.output, h.drawn, h.size, fun b hb hn => h.block b hb fun hm => hn (hs b hm)⟩
def CallsF (P : Program) (f : FuncId) (args : Array Value) (w : World) (R : Value → World → Prop) : Prop :=
 ∀ (o : Oper) (a : Go.Act) (next : Go.Act → World → Prop) (Q : Exit → Go.Act → World → Prop), (∀ v w', R v w' → next (a.put o.dst v) w') → o.upon P a next Q ((callFunc f args).run P w)
def Boxes (P : Program) (f : FuncId) (t : TypeId) (g : Nat) : Prop :=
 ∀ (v : Value) (w : World), CallsF P f #[v] w fun r w' => r = .func (.func g) #[] #[.pointer (some ⟨w.heap.size, 0, none⟩)] ∧ w' = w.alloc (.cells v.cells t)
def Con0 (P : Program) (K : Cod Γ) (f : FuncId) (cal : Callee Γ β) : Prop :=
 ∀ (tvs : List (TV Γ)) (k : Res Γ → Option β) (b : β), cal.sem tvs k = some b → ∃ r, (∀ k', cal.sem tvs k' = k' r) ∧
  ∀ (w : World) (A : Nat → Prop) (args : List Value) (L : List Nat), TvRs K w A tvs args L → L.Nodup → (∀ b ∈ L, b < w.heap.size ∧ ¬ A b) → (∀ b, A b → b < w.heap.size) → CallsF P f args.toArray w (Post K w A L args r)
structure Con (P : Program) (K : Cod Γ) (f : FuncId) (cal : Callee Γ β) : Prop where
 sem : Con0 P K f cal
 box : ∀ t g, cal.boxer = some (t, g) → Boxes P f t g
theorem Locs.after {w w' : World} {R R2 : Rh Γ} {M M2 : Nat → List Nat} {own own2 : Nat → Option Nat} {mine : Nat → Prop} (hL : Locs K w R M own mine) (hc : Qh R R2) (hs : Same R.A w w')
  (hfr : ∀ j g i e xs, R2.loc j = .frow g i e xs → R.loc j = .frow g i e xs ∧ R2.hdr j = R.hdr j)
  (hlive : ∀ j, (R2.loc j).live → (R2.loc j = R.loc j ∧ R2.hdr j = R.hdr j ∧ M2 j = M j ∧ (∀ b ∈ M j, w'.heap[b]? = w.heap[b]? ∧ own2 b = some j ∧ ¬ R2.A b)) ∨
   (LR K w' R2 (R2.hdr j) (M2 j) (R2.loc j) ∧ (M2 j).Nodup ∧ ∀ b ∈ M2 j, own2 b = some j ∧ b < w'.heap.size ∧ mine b ∧ ¬ R2.A b))
  (hsize : w.heap.size ≤ w'.heap.size) (halt : ∀ b, R2.A b → b < w'.heap.size) : Locs K w' R2 M2 own2 mine := by
 refine ⟨fun j => ?_, fun j hj b hb => ?_, fun j hj => ?_, fun j hj b hb => ?_, halt⟩
 ·cases hl : R2.loc j with
  | dead => trivial
  | frow g i e xs =>
   obtain ⟨h1, h2⟩ := hfr j g i e xs hl
   have := hL.lr j
   rw [h1] at this
   rw [h2]
   exact Ro.frame hc.A hs this
  | row g i e xs =>
   rcases hlive j (by rw [hl]; trivial) with ⟨h1, h2, h3, h4⟩ | ⟨h1, _⟩
   ·rw [h2, h3, ← hl, h1]
    exact (hL.lr j).move hc hs fun _ b hb => (h4 b hb).1
   ·rw [← hl]; exact h1
  | box t cs =>
   rcases hlive j (by rw [hl]; trivial) with ⟨h1, h2, h3, h4⟩ | ⟨h1, _⟩
   ·rw [h2, h3, ← hl, h1]
    exact (hL.lr j).move hc hs fun _ b hb => (h4 b hb).1
   ·rw [← hl]; exact h1
  | hrow g e xs x i off n =>
   rcases hlive j (by rw [hl]; trivial) with ⟨h1, h2, h3, h4⟩ | ⟨h1, _⟩
   ·rw [h2, h3, ← hl, h1]
    exact (hL.lr j).move hc hs fun _ b hb => (h4 b hb).1
   ·rw [← hl]; exact h1
 ·rcases hlive j hj with ⟨h1, h2, h3, h4⟩ | ⟨_, _, h4⟩
  ·rw [h3] at hb; exact (h4 b hb).2.1
  ·exact (h4 b hb).1
 ·rcases hlive j hj with ⟨h1, h2, h3, h4⟩ | ⟨_, h4, _⟩
  ·rw [h3]; rw [h1] at hj; exact hL.nodup j hj
  ·exact h4
 ·rcases hlive j hj with ⟨h1, h2, h3, h4⟩ | ⟨_, _, h4⟩
  ·rw [h3] at hb
   rw [h1] at hj
   have := hL.lt j hj b hb
   exact ⟨Z54 this.1 hsize, this.2.1, (h4 b hb).2.2⟩
  ·exact (h4 b hb).2
theorem Locs.addRow {w : World} {R : Rh Γ} {M : Nat → List Nat} {own : Nat → Option Nat} {mine : Nat → Prop} (hL : Locs K w R M own mine) {n : Nat} (hn : ¬ R.N n) {inner : Bool} {e : TypeId} {xs : List (Γ e)} {v : Value} {L : List Nat}
  (hO : Own K w R.A (.sl true inner e xs) v L) (hfree : ∀ j, (R.loc j).live → ∀ b ∈ M j, b ∉ L) (hnd : L.Nodup) (hlt : ∀ b ∈ L, b < w.heap.size ∧ mine b ∧ ¬ R.A b) :
  Locs K w (R.new n (.row 0 inner e xs) v) (Go.Ev.upd M n L) (fun b => if b ∈ L then some n else own b) mine := by
 have hc := Qh.new hn (.row 0 inner e xs) v
 refine hL.put n _ v L hc (fun _ _ => rfl) rfl rfl rfl (fun j _ hl b hb => ⟨rfl, by rw [if_neg (hfree j hl b hb)]; exact hL.own j hl b hb⟩) (Z7 _) ?_ (fun _ b hb => by simp [hb]) (fun _ => hnd) (fun _ => hlt)
 exact hO
structure Imp (K : Cod Γ) (w : World) (mine : Nat → Prop) (R : Rh Γ) (M : Nat → List Nat) (own : Nat → Option Nat) (n n' : Nat) (u : List (Nat × LV Γ)) (L : List Nat) (R' : Rh Γ) (M' : Nat → List Nat) (own' : Nat → Option Nat) : Prop where
 loc : R'.loc = Qp R.loc u
 A : R'.A = R.A
 N : ∀ r, R'.N r → R.N r ∨ (n ≤ r ∧ r < n')
 le : n ≤ n'
 compat : Qh R R'
 locs : Locs K w R' M' own' mine
 blocks : ∀ j, (R'.loc j).live → ∀ b ∈ M' j, b ∈ L ∨ ((R.loc j).live ∧ b ∈ M j)
theorem Imp.refl {w : World} {mine : Nat → Prop} {R : Rh Γ} {M : Nat → List Nat} {own : Nat → Option Nat} (hL : Locs K w R M own mine) (n : Nat) (L : List Nat) : Imp K w mine R M own n n [] L R M own :=
 ⟨rfl, rfl, fun r h => .inl h, Z7 _, Qh.refl R, hL, fun j hj b hb => .inr ⟨hj, hb⟩⟩
theorem Imp.trans {w : World} {mine : Nat → Prop} {R R' R'' : Rh Γ} {M M' M'' : Nat → List Nat} {own own' own'' : Nat → Option Nat} {n n' n'' : Nat} {u u' : List (Nat × LV Γ)} {L L' : List Nat}
  (h : Imp K w mine R M own n n' u L R' M' own') (k : Imp K w mine R' M' own' n' n'' u' L' R'' M'' own'') : Imp K w mine R M own n n'' (u' ++ u) (L ++ L') R'' M'' own'' :=
 ⟨by rw [Q3v, ← h.loc, k.loc], k.A.trans h.A, fun r hr => (k.N r hr).elim (fun hr => (h.N r hr).imp id fun x => ⟨x.1, Z54 x.2 k.le⟩) (fun x => .inr ⟨Z35 h.le x.1, x.2⟩), Z35 h.le k.le, h.compat.trans k.compat, k.locs,
  fun j hj b hb => (k.blocks j hj b hb).elim (fun x => .inl (by simp [x])) fun x => (h.blocks j x.1 b x.2).imp (fun y => by simp [y]) id⟩
theorem impT_le (n : Nat) (t : T Γ) : n ≤ (impT n t).2.2 := by
 unfold impT
 split
 ·simp
 ·cases allB T.plain _ <;> simp
 ·simp
theorem allB_true {α : Type} {f : α → Bool} : ∀ {xs : List α}, allB f xs = true → ∀ x ∈ xs, f x = true
 | [], _, x, h => by cases h
 | y :: ys, h, x, hx => by
  simp only [allB, Z4] at h
  rcases Z13.1 hx with rfl | hx
  ·exact h.1
  ·exact allB_true h.2 x hx
theorem Locs.addBox {w : World} {R : Rh Γ} {M : Nat → List Nat} {own : Nat → Option Nat} {mine : Nat → Prop} (hL : Locs K w R M own mine) {n : Nat} (hn : ¬ R.N n) {t : TypeId} {ts : List (T Γ)} {v : Value} {L : List Nat}
  (hO : Own K w R.A (.ptr true t ts) v L) (hp : ∀ x ∈ ts, x.plain = true) (hfree : ∀ j, (R.loc j).live → ∀ b ∈ M j, b ∉ L) (hnd : L.Nodup) (hlt : ∀ b ∈ L, b < w.heap.size ∧ mine b ∧ ¬ R.A b) :
  Locs K w (R.new n (.box t (shT.shL ts)) v) (Go.Ev.upd M n L) (fun b => if b ∈ L then some n else own b) mine ∧ ∃ g, v = .pointer (some ⟨g, 0, none⟩) := by
 have hc := Qh.new hn (.box t (shT.shL ts)) v
 cases hO with
 | ptr hg hl =>
  rename_i g c L'
  obtain ⟨hro, rfl⟩ := hl.shared hp
  refine ⟨hL.put n _ _ [g] hc (fun _ _ => rfl) rfl rfl rfl (fun j _ hl b hb => ⟨rfl, by rw [if_neg (hfree j hl b hb)]; exact hL.own j hl b hb⟩) (Z7 _) ?_ (fun _ b hb => by simp [Z38.1 hb]) (fun _ => hnd) (fun _ => hlt), g, rfl⟩
  exact ⟨g, c, rfl, rfl, hg, VR.shT.go (R := R.new n (.box t (shT.shL ts)) (.pointer (some ⟨g, 0, none⟩))) hro⟩
theorem impL_le : ∀ (n : Nat) (ts : List (T Γ)), n ≤ (impL n ts).2.2
 | n, [] => Z7 _
 | n, t :: ts => Z35 (impT_le n t) (impL_le _ ts)
theorem imp1_le (n : Nat) (t : TV Γ) : n ≤ (imp1 n t).2.2 := by
 cases t with
 | one t => exact impT_le n t
 | agg ts => exact impL_le n ts
 | tup vs => exact Z7 _
theorem impVs_le : ∀ (n : Nat) (ts : List (TV Γ)), n ≤ (impVs n ts).2.2
 | n, [] => Z7 _
 | n, t :: ts => Z35 (imp1_le n t) (impVs_le _ ts)
theorem impT_sound {w : World} {R : Rh Γ} {M : Nat → List Nat} {own : Nat → Option Nat} {mine : Nat → Prop} (hL : Locs K w R M own mine) {n : Nat} {B : Nat} (hn : ∀ r, n ≤ r → r < B → ¬ R.N r) {t : T Γ} (hB : (impT n t).2.2 ≤ B) {v : Value} {L : List Nat} (hO : Own K w R.A t v L)
  (hfree : ∀ j, (R.loc j).live → ∀ b ∈ M j, b ∉ L) (hnd : L.Nodup) (hlt : ∀ b ∈ L, b < w.heap.size ∧ mine b ∧ ¬ R.A b) :
  ∃ R' M' own', Imp K w mine R M own n (impT n t).2.2 (impT n t).2.1 L R' M' own' ∧ VR K w R' (impT n t).1 v ∧ v.oneCell' = true := by
 have h1 := hO.one
 have plain : t.plain = true → (impT n t) = (shT t, [], n) → ∃ R' M' own', Imp K w mine R M own n (impT n t).2.2 (impT n t).2.1 L R' M' own' ∧ VR K w R' (impT n t).1 v ∧ v.oneCell' = true := by
  intro hp e
  rw [e]
  exact ⟨R, M, own, Imp.refl hL n L, (VR.shT (hO.shared hp).1).1, h1⟩
 cases t with
 | sl own' i e xs =>
  cases own' with
  | false => exact plain rfl rfl
  | true =>
   refine ⟨R.new n (.row 0 i e xs) v, Go.Ev.upd M n L, _, ⟨by rw [impT, Q1L]; rfl, rfl, fun r h => h.imp id fun h => by simp only [impT]; omega, by simp [impT], Qh.new (hn n (Z7 _) (by simp [impT] at hB; omega)) _ _, hL.addRow (hn n (Z7 _) (by simp [impT] at hB; omega)) hO hfree hnd hlt, fun j hj b hb => ?_⟩, row_new _ _ _ _ _ _ (own_isSlice hO), h1⟩
   by_cases hj' : j = n
   ·subst hj'; simp at hb; exact .inl hb
   ·simp only [Rh.new, Go.Ev.upd_ne _ _ hj'] at hj hb; exact .inr ⟨hj, hb⟩
 | ptr own' t cs =>
  cases own' with
  | false => exact plain rfl rfl
  | true =>
   cases hp : allB T.plain cs with
   | false => simp only [impT, hp, cond_false]; exact ⟨R, M, own, Imp.refl hL n L, .undef _, h1⟩
   | true =>
    simp only [impT, hp, cond_true] at hB ⊢
    obtain ⟨hL', g, rfl⟩ := hL.addBox (hn n (Z7 _) (by omega)) hO (allB_true hp) hfree hnd hlt
    refine ⟨R.new n (.box t (shT.shL cs)) (.pointer (some ⟨g, 0, none⟩)), Go.Ev.upd M n L, (fun b => if b ∈ L then some n else own b), ⟨by rw [Q1L]; rfl, rfl, fun r h => h.imp id fun h => by omega, by omega, Qh.new (hn n (Z7 _) (by omega)) _ _, hL', fun j hj b hb => ?_⟩, ptr_new w R n t _ g 0, h1⟩
    by_cases hj' : j = n
    ·subst hj'; simp at hb; exact .inl (by simpa using hb)
    ·simp only [Rh.new, Go.Ev.upd_ne _ _ hj'] at hj hb; exact .inr ⟨hj, hb⟩
 | int k m => exact plain rfl rfl
 | bool b => exact plain rfl rfl
 | str s => exact plain rfl rfl
 | fn f caps => exact plain rfl rfl
theorem impL_sound {w : World} {mine : Nat → Prop} {B : Nat} : ∀ (ts : List (T Γ)) (vs : List Value) (L : List Nat) (R : Rh Γ) (M : Nat → List Nat) (own : Nat → Option Nat) (n : Nat), Locs K w R M own mine → (∀ r, n ≤ r → r < B → ¬ R.N r) → (impL n ts).2.2 ≤ B → OwnL K w R.A ts vs L →
  (∀ j, (R.loc j).live → ∀ b ∈ M j, b ∉ L) → L.Nodup → (∀ b ∈ L, b < w.heap.size ∧ mine b ∧ ¬ R.A b) →
  ∃ R' M' own', Imp K w mine R M own n (impL n ts).2.2 (impL n ts).2.1 L R' M' own' ∧ VRL K w R' (impL n ts).1 vs
 | [], _, _, R, M, own, n, hL, _, _, .nil, _, _, _ => ⟨R, M, own, Imp.refl hL n [], .nil⟩
 | t :: ts, _, _, R, M, own, n, hL, hn, hB, .cons (v := v) (L := L1) (L' := L2) h k, hfree, hnd, hlt => by
  have hnd' := Z33.1 hnd
  obtain ⟨R1, M1, own1, hi, hv, h1⟩ := impT_sound hL hn (Z35 (impL_le _ ts) hB) h (fun j hj b hb hb' => hfree j hj b hb (by simp [hb'])) hnd'.1 (fun b hb => hlt b (by simp [hb]))
  obtain ⟨R2, M2, own2, hi2, hv2⟩ := impL_sound ts _ L2 R1 M1 own1 (impT n t).2.2 hi.locs (fun r hr hb hN => (hi.N r hN).elim (hn r (Z35 hi.le hr) hb) (fun h => by omega)) hB (by rw [hi.A]; exact k)
   (fun j hj b hb hb' => (hi.blocks j hj b hb).elim (fun h => hnd'.2.2 b h b hb' rfl) (fun h => hfree j h.1 b h.2 (by simp [hb']))) hnd'.2.1 (fun b hb => by rw [hi.A]; exact hlt b (by simp [hb]))
  exact ⟨R2, M2, own2, hi.trans hi2, .cons (hv.move hi2.compat (fun _ _ => rfl)) h1 hv2⟩
theorem imp1_sound {w : World} {R : Rh Γ} {M : Nat → List Nat} {own : Nat → Option Nat} {mine : Nat → Prop} (hL : Locs K w R M own mine) {n : Nat} {B : Nat} (hn : ∀ r, n ≤ r → r < B → ¬ R.N r) {t : TV Γ} (hB : (imp1 n t).2.2 ≤ B) {v : Value} {L : List Nat} (hO : TvR K w R.A t v L)
  (hfree : ∀ j, (R.loc j).live → ∀ b ∈ M j, b ∉ L) (hnd : L.Nodup) (hlt : ∀ b ∈ L, b < w.heap.size ∧ mine b ∧ ¬ R.A b) :
  ∃ R' M' own', Imp K w mine R M own n (imp1 n t).2.2 (imp1 n t).2.1 L R' M' own' ∧ VR K w R' (imp1 n t).1 v := by
 cases hO with
 | one h =>
  obtain ⟨R', M', own', hi, hv, _⟩ := impT_sound hL hn hB h hfree hnd hlt
  exact ⟨R', M', own', hi, hv⟩
 | agg h =>
  obtain ⟨R', M', own', hi, hv⟩ := impL_sound _ _ L R M own n hL hn hB h hfree hnd hlt
  exact ⟨R', M', own', hi, .agg hv⟩
theorem Q4r {w : World} {mine : Nat → Prop} {B : Nat} : ∀ (ts : List (TV Γ)) (vs : List Value) (L : List Nat) (R : Rh Γ) (M : Nat → List Nat) (own : Nat → Option Nat) (n : Nat), Locs K w R M own mine → (∀ r, n ≤ r → r < B → ¬ R.N r) → (impVs n ts).2.2 ≤ B → TvRs K w R.A ts vs L →
  (∀ j, (R.loc j).live → ∀ b ∈ M j, b ∉ L) → L.Nodup → (∀ b ∈ L, b < w.heap.size ∧ mine b ∧ ¬ R.A b) →
  ∃ R' M' own', Imp K w mine R M own n (impVs n ts).2.2 (impVs n ts).2.1 L R' M' own' ∧ VRM K w R' (impVs n ts).1 vs
 | [], _, _, R, M, own, n, hL, _, _, .nil, _, _, _ => ⟨R, M, own, Imp.refl hL n [], .nil⟩
 | t :: ts, _, _, R, M, own, n, hL, hn, hB, .cons (v := v) (L := L1) (L' := L2) h k, hfree, hnd, hlt => by
  have hnd' := Z33.1 hnd
  obtain ⟨R1, M1, own1, hi, hv⟩ := imp1_sound hL hn (Z35 (impVs_le _ ts) hB) h (fun j hj b hb hb' => hfree j hj b hb (by simp [hb'])) hnd'.1 (fun b hb => hlt b (by simp [hb]))
  obtain ⟨R2, M2, own2, hi2, hv2⟩ := Q4r ts _ L2 R1 M1 own1 (imp1 n t).2.2 hi.locs (fun r hr hb hN => (hi.N r hN).elim (hn r (Z35 hi.le hr) hb) (fun h => by omega)) hB (by rw [hi.A]; exact k)
   (fun j hj b hb hb' => (hi.blocks j hj b hb).elim (fun h => hnd'.2.2 b h b hb' rfl) (fun h => hfree j h.1 b h.2 (by simp [hb']))) hnd'.2.1 (fun b hb => by rw [hi.A]; exact hlt b (by simp [hb]))
  exact ⟨R2, M2, own2, hi.trans hi2, .cons (hv.move hi2.compat (fun _ _ => rfl)) hv2⟩
theorem impV_sound {w : World} {R : Rh Γ} {M : Nat → List Nat} {own : Nat → Option Nat} {mine : Nat → Prop} (hL : Locs K w R M own mine) {n : Nat} {B : Nat} (hn : ∀ r, n ≤ r → r < B → ¬ R.N r) {t : TV Γ} (hB : (impV n t).2.2 ≤ B) {v : Value} {L : List Nat} (hO : ResR K w R.A t v L)
  (hfree : ∀ j, (R.loc j).live → ∀ b ∈ M j, b ∉ L) (hnd : L.Nodup) (hlt : ∀ b ∈ L, b < w.heap.size ∧ mine b ∧ ¬ R.A b) :
  ∃ R' M' own', Imp K w mine R M own n (impV n t).2.2 (impV n t).2.1 L R' M' own' ∧ VR K w R' (impV n t).1 v := by
 cases hO with
 | one h =>
  cases h with
  | one h =>
   obtain ⟨R', M', own', hi, hv⟩ := imp1_sound hL hn hB (TvR.one h) hfree hnd hlt
   exact ⟨R', M', own', hi, hv⟩
  | agg h =>
   obtain ⟨R', M', own', hi, hv⟩ := imp1_sound hL hn hB (TvR.agg h) hfree hnd hlt
   exact ⟨R', M', own', hi, hv⟩
 | tup h =>
  obtain ⟨R', M', own', hi, hv⟩ := Q4r _ _ L R M own n hL hn hB h hfree hnd hlt
  exact ⟨R', M', own', hi, .tup hv⟩
end Go.Ev
/- Calls: their step. -/
namespace Go.Ev
variable {Γ : TypeId → Type} {K : Cod Γ} {β : Type}
mutual
theorem Own.unshare {X : CodX K} {w : World} {A A' : Nat → Prop} {t : T Γ} {v : Value} {L : List Nat} : Own K w A t v L → Q2S X.flat t = false → Own K w A' t v L
 | .int k n, _ => .int k n
 | .bool b, _ => .bool b
 | .str s, _ => .str s
 | .ro _, h => by cases h
 | .sl (inner := i) (e := e) (xs := xs) hr hl, h => .sl hr (OwnL.unshare hl fun t ht => by
   have hc : cells K i e xs = cells K true e xs := by
    cases i with
    | true => rfl
    | false => exact Q41 (X := X) (by simpa [Q2S] using h) xs false true
   rw [hc] at ht
   simp only [cells, List.mem_flatten, Z18] at ht
   obtain ⟨l, ⟨x, _, rfl⟩, ht⟩ := ht
   exact X.closed e x t ht)
 | .ptrRo _, h => by cases h
 | .ptr _ _, h => by cases h
 | .fn (caps := caps) hr, h => by
   cases caps with
   | nil => cases hr with | fn hc => cases hc; exact .fn (.fn .nil)
   | cons c cs => cases h
theorem OwnL.unshare {X : CodX K} {w : World} {A A' : Nat → Prop} {ts : List (T Γ)} {vs : List Value} {L : List Nat} : OwnL K w A ts vs L → (∀ t ∈ ts, Q2S X.flat t = false) → OwnL K w A' ts vs L
 | .nil, _ => .nil
 | .cons h k, hp => .cons (Own.unshare h (hp _ (by simp))) (OwnL.unshare k fun t ht => hp t (by simp [ht]))
end
theorem Q3I {α : Type} {f : α → Bool} : ∀ {xs : List α}, anyB f xs = false → ∀ x ∈ xs, f x = false
 | [], _, x, h => by cases h
 | y :: ys, h, x, hx => by
  simp only [anyB, Bool.or_eq_false_iff] at h
  rcases Z13.1 hx with rfl | hx
  ·exact h.1
  ·exact Q3I h.2 x hx
theorem TvR.unshare {X : CodX K} {w : World} {A A' : Nat → Prop} {t : TV Γ} {v : Value} {L : List Nat} (h : TvR K w A t v L) (hs : sharesTV X.flat t = false) : TvR K w A' t v L := by
 cases h with
 | one h => exact .one (h.unshare hs)
 | agg h => exact .agg (h.unshare (Q3I hs))
theorem TvRs.unshare {X : CodX K} {w : World} {A A' : Nat → Prop} : ∀ {ts : List (TV Γ)} {vs : List Value} {L : List Nat}, TvRs K w A ts vs L → (∀ t ∈ ts, sharesTV X.flat t = false) → TvRs K w A' ts vs L
 | _, _, _, .nil, _ => .nil
 | _, _, _, .cons h k, hp => .cons (h.unshare (hp _ (by simp))) (k.unshare fun t ht => hp t (by simp [ht]))
theorem ResR.unshare {X : CodX K} {w : World} {A A' : Nat → Prop} {t : TV Γ} {v : Value} {L : List Nat} (h : ResR K w A t v L) (hs : sharesV X.flat t = false) : ResR K w A' t v L := by
 cases h with
 | one h =>
  cases h with
  | one h => exact .one (.one (h.unshare hs))
  | agg h => exact .one (.agg (h.unshare (Q3I hs)))
 | tup h => exact .tup (h.unshare (Q3I hs))
theorem KeepR.unshare {X : CodX K} {w : World} {A A' : Nat → Prop} : ∀ {ts : List (Option (TV Γ))} {vs : List Value} {L : List Nat}, KeepR K w A ts vs L → (∀ t ∈ ts, sharesO X.flat t = false) → KeepR K w A' ts vs L
 | _, _, _, .nil, _ => .nil
 | _, _, _, .none k, hp => .none (k.unshare fun t ht => hp t (by simp [ht]))
 | _, _, _, .some h k, hp => .some (h.unshare (hp (Option.some _) (by simp))) (k.unshare fun t ht => hp t (by simp [ht]))
theorem Q42 {w : World} {R : Rh Γ} {M : Nat → List Nat} {f : AV Γ → Option (T Γ × List Nat)}
  (hf : ∀ v x t m, VR K w R v x → f v = some (t, m) → (∀ q ∈ m, (R.loc q).live) ∧ t.plain = true ∧ ∀ A' : Nat → Prop, (∀ b, R.A b → A' b) → (∀ q ∈ m, ∀ b ∈ M q, A' b) → Ro K w A' t x) :
  ∀ (vs : List (AV Γ)) (xs : List Value) (ts : List (T Γ)) (m : List Nat), VRL K w R vs xs → mapO f vs = some (ts, m) →
   (∀ q ∈ m, (R.loc q).live) ∧ (∀ t ∈ ts, t.plain = true) ∧ ∀ A' : Nat → Prop, (∀ b, R.A b → A' b) → (∀ q ∈ m, ∀ b ∈ M q, A' b) → RoL K w A' ts xs
 | [], _, ts, m, .nil, h => by simp [mapO] at h; obtain ⟨rfl, rfl⟩ := h; exact ⟨by simp, by simp, fun _ _ _ => .nil⟩
 | v :: vs, _, ts, m, .cons hv _ hvs, h => by
  simp only [mapO] at h
  split at h
  ·rename_i t m1 h1
   split at h
   ·rename_i ts' m2 h2
    cases h
    obtain ⟨a1, b1, c1⟩ := hf v _ t m1 hv h1
    obtain ⟨a2, b2, c2⟩ := Q42 hf vs _ ts' m2 hvs h2
    refine ⟨fun q hq => (Z26.1 hq).elim (a1 q) (a2 q), fun t' ht => ?_, fun A' hA hM => .cons (c1 A' hA fun q hq => hM q (by simp [hq])) (c2 A' hA fun q hq => hM q (by simp [hq]))⟩
    rcases Z13.1 ht with rfl | ht
    ·exact b1
    ·exact b2 t' ht
   ·cases h
  ·cases h
theorem RoL.cat {w : World} {A : Nat → Prop} : ∀ {ts ts' : List (T Γ)} {vs : List Value}, RoL K w A (ts ++ ts') vs → ∃ v1 v2, vs = v1 ++ v2 ∧ RoL K w A ts v1 ∧ RoL K w A ts' v2
 | [], ts', vs, h => ⟨[], vs, rfl, .nil, h⟩
 | t :: ts, ts', _, .cons h k => by
  obtain ⟨v1, v2, rfl, h1, h2⟩ := RoL.cat (ts := ts) k
  exact ⟨_ :: v1, v2, rfl, .cons h h1, h2⟩
theorem cells_ro {X : CodX K} {w : World} {A : Nat → Prop} {e : TypeId} (i : Bool) : ∀ {xs : List (Γ e)} {vs : List Value}, RoL K w A (cells K i e xs) vs → RoL K w A (cells K false e xs) vs := by
 cases i with
 | false => exact fun h => h
 | true =>
  intro xs
  induction xs with
  | nil => exact fun h => h
  | cons x xs ih =>
   intro vs h
   have e1 : ∀ i, cells K i e (x :: xs) = K.enc e i x ++ cells K i e xs := fun i => by simp [cells]
   rw [e1] at h ⊢
   obtain ⟨v1, v2, rfl, h1, h2⟩ := h.cat
   exact ((X.same e x w A v1).1 h1).append (ih h2)
theorem Ro.shared {X : CodX K} {w : World} {A : Nat → Prop} {own i : Bool} {e : TypeId} {xs : List (Γ e)} {v : Value} (h : Ro K w A (.sl own i e xs) v) : Ro K w A (.sl false false e xs) v := by
 cases h with | sl h1 h2 h3 h4 => exact .sl h1 h2 (cells_ro (X := X) i h3) h4
theorem sv_ro {w : World} {R : Rh Γ} {M : Nat → List Nat} {own : Nat → Option Nat} {mine : Nat → Prop} (hL : Locs K w R M own mine) {r g off len : Nat} {i : Bool} {e : TypeId} {xs : List (Γ e)} (hr : R.loc r = .row g i e xs) {x : Value} (hx : VR K w R (.sv r g off len) x)
  {A' : Nat → Prop} (hA : ∀ b, R.A b → A' b) (hM : ∀ b ∈ M r, A' b) : Ro K w A' (.sl false i e ((xs.drop off).take len)) x := by
 cases hx with
 | sv hN hc h1 =>
  rename_i a cap
  obtain ⟨hlen, hpos, _⟩ := h1 i e xs (by rw [hr])
  have hlr := hL.lr r
  rw [hr] at hlr
  have hro := Own.toRo hA hlr hM
  generalize hh : R.hdr r = hd at hro hpos
  cases hro with
  | sl hl hcap hrl hcell =>
   rename_i a0 n0 cap0 vs
   refine .sl (by rw [Z8, Z19]; omega) hc (by rw [Q3V, cells_drop]; exact (hrl.drop _).take _) fun j u hu => ?_
   rw [Z55] at hu
   split at hu
   ·rename_i hj
    rw [Z61] at hu
    have hlp : 0 < len := by
     rcases Nat.eq_zero_or_pos len with h0 | h0
     ·subst h0; simp at hj
     ·exact h0
    obtain ⟨gb, n', cap', e1, rfl⟩ := hpos hlp
    cases e1
    obtain ⟨ad, e2, h3, h4⟩ := hcell _ u hu
    cases e2
    refine ⟨_, rfl, h3, ?_⟩
    rw [add_lit] at h4 ⊢
    rw [Z25] at h4; exact h4
   ·cases hu
theorem lend_sound {X : CodX K} {w : World} {R : Rh Γ} {M : Nat → List Nat} {own : Nat → Option Nat} {mine : Nat → Prop} (hL : Locs K w R M own mine) {loc : Nat → LV Γ} (hl : R.loc = loc) :
  ∀ (f : Nat) (v : AV Γ) (x : Value) (t : T Γ) (m : List Nat), VR K w R v x → lend loc f v = some (t, m) → (∀ q ∈ m, (R.loc q).live) ∧ t.plain = true ∧ ∀ A' : Nat → Prop, (∀ b, R.A b → A' b) → (∀ q ∈ m, ∀ b ∈ M q, A' b) → Ro K w A' t x := by
 intro f
 induction f with
 | zero => intro v x t m _ h; cases h
 | succ f ih =>
  intro v x t m hx h
  cases v with
  | int k n => simp only [lend] at h; cases h; cases hx; exact ⟨by simp, rfl, fun _ _ _ => .int _ _⟩
  | bool b => simp only [lend] at h; cases h; cases hx; exact ⟨by simp, rfl, fun _ _ _ => .bool _⟩
  | str s => simp only [lend] at h; cases h; cases hx; exact ⟨by simp, rfl, fun _ _ _ => .str _⟩
  | vs i e xs => simp only [lend] at h; cases h; cases hx with | vs hro => exact ⟨by simp, rfl, fun _ hA _ => Ro.shared (X := X) (hro.frame hA (fun _ _ => rfl))⟩
  | vp cs => simp only [lend] at h; cases h; cases hx with | vp hro => exact ⟨by simp, rfl, fun _ hA _ => hro.frame hA (fun _ _ => rfl)⟩
  | sl r g =>
   simp only [lend] at h
   cases hr : loc r with
   | row g' i e xs =>
    rw [hr] at h; simp only at h
    cases hg : g.beq g' with
    | false => rw [hg] at h; cases h
    | true =>
     rw [hg] at h; cases h
     have hg := beq_eq hg
     subst hg
     cases hx with
     | sl hN hs h1 h2 =>
      refine ⟨by intro q hq; rw [Z38.1 hq, hl, hr]; trivial, rfl, fun A' hA hM => ?_⟩
      have hlr := hL.lr r
      rw [hl, hr, LR, ← h1 i e xs (by rw [hl, hr])] at hlr
      exact Ro.shared (X := X) (Own.toRo hA hlr fun b hb => hM r (by simp) b hb)
   | frow g' i e xs =>
    rw [hr] at h; simp only at h
    cases hg : g.beq g' with
    | false => rw [hg] at h; cases h
    | true =>
     rw [hg] at h; cases h
     have hg := beq_eq hg
     subst hg
     cases hx with
     | sl hN hs h1 h2 =>
      refine ⟨by simp, rfl, fun A' hA hM => ?_⟩
      have hlr := hL.lr r
      rw [hl, hr, LR, ← h2 i e xs (by rw [hl, hr])] at hlr
      exact Ro.shared (X := X) (hlr.frame hA (fun _ _ => rfl))
   | _ => rw [hr] at h; cases h
  | sv r g off len =>
   simp only [lend] at h
   cases hr : loc r with
   | row g' i e xs =>
    rw [hr] at h; simp only at h
    cases hg : g.beq g' with
    | false => rw [hg] at h; cases h
    | true =>
     rw [hg] at h; cases h
     have hg := beq_eq hg
     subst hg
     exact ⟨by intro q hq; rw [Z38.1 hq, hl, hr]; trivial, rfl, fun A' hA hM => Ro.shared (X := X) (sv_ro hL (by rw [hl, hr]) hx hA fun b hb => hM r (by simp) b hb)⟩
   | _ => rw [hr] at h; cases h
  | ptr b off =>
   cases off with
   | succ off => simp only [lend] at h; cases h
   | zero =>
    simp only [lend] at h
    cases hr : loc b with
    | box bt cs =>
     rw [hr] at h; simp only at h
     split at h
     ·rename_i ts m' hm
      cases h
      obtain ⟨g, hap, hN, hp⟩ := VR.ptr_inv hx
      have hlr := hL.lr b
      rw [hl, hr] at hlr
      obtain ⟨g', c, e1, e2, e3, e4⟩ := hlr
      have := hp bt cs (by rw [hl, hr])
      rw [e1] at this
      obtain rfl : g' = g := by injection this with this; injection this with this; injection this
      obtain ⟨a1, b1, c1⟩ := Q42 (M := M) ih cs _ _ _ e4 hm
      refine ⟨fun q hq => ?_, rfl, fun A' hA hM => ?_⟩
      ·rcases Z13.1 hq with rfl | hq
       ·rw [hl, hr]; trivial
       ·exact a1 q hq
      ·rw [hap]
       refine .ptr (c1 A' hA fun q hq => hM q (by simp [hq])) fun j u hu => ⟨hM b (by simp) g' (by simp [e2]), ?_⟩
       rw [add_lit, Z25, cell_of_row w g' j c bt (0, 0) e3]
       simpa using hu
     ·cases h
    | _ => rw [hr] at h; cases h
  | fn g caps =>
   simp only [lend] at h
   split at h
   ·rename_i ts m' hm
    cases h
    cases hx with
    | fn hv =>
     obtain ⟨a1, b1, c1⟩ := Q42 (M := M) ih caps _ _ _ hv hm
     exact ⟨a1, rfl, fun A' hA hM => .fn (c1 A' hA hM)⟩
   ·cases h
  | _ => simp only [lend] at h; cases h
theorem plainL_sound {w : World} {R : Rh Γ} : ∀ {cs : List (AV Γ)} {vs : List Value} {ts : List (T Γ)}, VRL K w R cs vs → plainL cs = some ts → RoL K w R.A ts vs ∧ ∀ t ∈ ts, t.plain = true
 | [], _, ts, .nil, h => by simp [plainL] at h; subst h; exact ⟨.nil, by simp⟩
 | v :: vs, _, ts, .cons (v := xv) hv _ hvs, h => by
  simp only [plainL] at h
  split at h
  ·rename_i t h1
   split at h
   ·rename_i ts' h2
    cases h
    obtain ⟨a, b⟩ := plainL_sound hvs h2
    have key : Ro K w R.A t xv ∧ t.plain = true := by
     cases v <;> simp only [plainV] at h1 <;> cases h1 <;> cases hv
     ·exact ⟨.int _ _, rfl⟩
     ·exact ⟨.bool _, rfl⟩
     ·exact ⟨.str _, rfl⟩
     ·rename_i hro; exact ⟨hro, rfl⟩
    exact ⟨.cons key.1 a, fun t' ht => (Z13.1 ht).elim (fun e => e ▸ key.2) (b t')⟩
   ·cases h
  ·cases h
theorem bif_some2 {α : Type _} {b : Bool} {x : Option α} {y : α} (h : (bif b then x else none) = some y) : b = true ∧ x = some y := by cases b with | false => cases h | true => exact ⟨rfl, h⟩
theorem blk_len (a : Option Addr) (n m : Nat) {c : Nat} : blk (.slice a n c) = blk (.slice a m c) := by cases a <;> rfl
theorem OwnL.first {w : World} {A : Nat → Prop} : ∀ {ts : List (T Γ)} {vs : List Value} {L : List Nat} (k : Nat), OwnL K w A ts vs L → ∃ L1, L1.Sublist L ∧ OwnL K w A (ts.take k) (vs.take k) L1
 | _, _, _, 0, _ => ⟨[], List.nil_sublist _, by simpa using OwnL.nil⟩
 | _, _, _, k + 1, .nil => ⟨[], List.nil_sublist _, by simpa using OwnL.nil⟩
 | _, _, _, k + 1, .cons (L := L1) h1 h2 => by
  obtain ⟨L2, s, h⟩ := OwnL.first k h2
  exact ⟨L1 ++ L2, (List.Sublist.refl L1).append s, .cons h1 h⟩
theorem ownT_sound {w : World} {R : Rh Γ} {M : Nat → List Nat} {own : Nat → Option Nat} {mine : Nat → Prop} (hL : Locs K w R M own mine) {loc : Nat → LV Γ} (hl : R.loc = loc) {v : AV Γ} {x : Value} {t : T Γ} {m : List Nat} (hx : VR K w R v x) (h : ownT loc v = some (t, m)) :
  m.Nodup ∧ (∀ q ∈ m, (R.loc q).live) ∧ ∀ A' : Nat → Prop, (∀ b, R.A b → A' b) → ∃ L, L.Sublist (m.flatMap M) ∧ Own K w A' t x L := by
 cases v with
 | int k n => simp only [ownT] at h; cases h; cases hx; exact ⟨by simp, by simp, fun _ _ => ⟨[], by simp, .int _ _⟩⟩
 | bool b => simp only [ownT] at h; cases h; cases hx; exact ⟨by simp, by simp, fun _ _ => ⟨[], by simp, .bool _⟩⟩
 | str s => simp only [ownT] at h; cases h; cases hx; exact ⟨by simp, by simp, fun _ _ => ⟨[], by simp, .str _⟩⟩
 | vs i e xs => simp only [ownT] at h; cases h; cases hx with | vs hro => exact ⟨by simp, by simp, fun _ hA => ⟨[], by simp, .ro (hro.frame hA (fun _ _ => rfl))⟩⟩
 | sl r g =>
  simp only [ownT] at h
  cases hr : loc r with
  | row g' i e xs =>
   rw [hr] at h; simp only at h
   cases hg : g.beq g' with
   | false => rw [hg] at h; cases h
   | true =>
    rw [hg] at h; cases h
    have hg := beq_eq hg
    subst hg
    cases hx with
    | sl hN hs h1 h2 =>
     refine ⟨by simp, by intro q hq; rw [Z38.1 hq, hl, hr]; trivial, fun A' hA => ?_⟩
     have hlr := hL.lr r
     rw [hl, hr, LR, ← h1 i e xs (by rw [hl, hr])] at hlr
     have := hlr.frame (A' := A') hA (fun _ _ => rfl) (fun _ _ => rfl)
     exact ⟨_, List.Sublist.refl _, by simpa using this⟩
  | frow g' i e xs =>
   rw [hr] at h; simp only at h
   cases hg : g.beq g' with
   | false => rw [hg] at h; cases h
   | true =>
    rw [hg] at h; cases h
    have hg := beq_eq hg
    subst hg
    cases hx with
    | sl hN hs h1 h2 =>
     refine ⟨by simp, by simp, fun A' hA => ?_⟩
     have hlr := hL.lr r
     rw [hl, hr, LR, ← h2 i e xs (by rw [hl, hr])] at hlr
     exact ⟨[], by simp, .ro (hlr.frame hA (fun _ _ => rfl))⟩
  | _ => rw [hr] at h; cases h
 | sv r g off len =>
  cases off with
  | succ off => simp only [ownT] at h; cases h
  | zero =>
   simp only [ownT] at h
   cases hr : loc r with
   | row g' i e xs =>
    rw [hr] at h; simp only at h
    replace h := bif_some2 h
    obtain ⟨hg, h⟩ := h
    have hg := beq_eq hg
    subst hg
    cases h
    cases hx with
    | sv hN hc h1 =>
     refine ⟨by simp, by intro q hq; rw [Z38.1 hq, hl, hr]; trivial, fun A' hA => ?_⟩
     obtain ⟨hlen, _, h0⟩ := h1 i e xs (by rw [hl, hr])
     obtain ⟨n0, h0⟩ := h0 rfl
     have hlr := hL.lr r
     rw [hl, hr, LR, h0] at hlr
     have hlr := hlr.frame (A' := A') hA (fun _ _ => rfl) (fun _ _ => rfl)
     simp only [Z104, List.flatMap_nil, Z30]
     generalize M r = Mr at hlr
     cases hlr with
     | sl hrow hcl =>
      rename_i vs Lc
      obtain ⟨L1, hs1, hcl2⟩ := hcl.first (len * K.sz e)
      rw [← Q3V] at hcl2
      rw [blk_len _ n0 len]
      refine ⟨_, (List.Sublist.refl _).append hs1, Own.sl ?_ hcl2⟩
      obtain ⟨p1, p2⟩ := hrow
      have hll : (xs.take len).length = len := by rw [Z8]; omega
      rw [hll]
      refine ⟨by rw [Z8, p1, Z68 (Z64 _ (by omega))], ?_⟩
      rcases p2 with ⟨e1, e2⟩ | ⟨g, cap, cur, e1, e2, e3, e4, e5, e6, e7⟩
      ·cases e1
       refine .inl ⟨?_, by omega⟩
       obtain rfl : len = 0 := by omega
       rfl
      ·cases e1
       refine .inr ⟨g, _, cur, rfl, e2, e3, by omega, e5, e6, ?_⟩
       rw [← e7, List.take_take, Z68 (Z64 _ (by omega))]
   | _ => rw [hr] at h; cases h
 | fn f caps =>
  cases caps with
  | nil => simp only [ownT] at h; cases h; cases hx with | fn hv => cases hv; exact ⟨by simp, by simp, fun _ _ => ⟨[], by simp, .fn (.fn .nil)⟩⟩
  | cons c cs => simp only [ownT] at h; cases h
 | ptr b off =>
  cases off with
  | succ off => simp only [ownT] at h; cases h
  | zero =>
   simp only [ownT] at h
   cases hr : loc b with
   | box bt cs =>
    rw [hr] at h; simp only at h
    cases hp : plainL cs with
    | none => rw [hp] at h; cases h
    | some ts =>
     rw [hp] at h; cases h
     obtain ⟨g, hap, hN, hpp⟩ := VR.ptr_inv hx
     have hlr := hL.lr b
     rw [hl, hr] at hlr
     obtain ⟨g', c, e1, e2, e3, e4⟩ := hlr
     have := hpp bt cs (by rw [hl, hr])
     rw [e1] at this
     obtain rfl : g' = g := by injection this with this; injection this with this; injection this
     obtain ⟨h1, h2⟩ := plainL_sound e4 hp
     refine ⟨by simp, by intro q hq; rw [Z38.1 hq, hl, hr]; trivial, fun A' hA => ?_⟩
     rw [hap]
     have := Own.ptr (K := K) (A := A') (t := bt) e3 ((h1.frame (A' := A') hA (fun _ _ => rfl)).toOwn h2)
     exact ⟨_, List.Sublist.refl _, by simpa [e2] using this⟩
   | _ => rw [hr] at h; cases h
 | _ => simp only [ownT] at h; cases h
theorem Q2x {i : Nat} : ∀ {js : List Nat}, memN i js = true ↔ i ∈ js
 | [] => by simp [memN]
 | j :: js => by simp [memN, Q2x (js := js)]
theorem Q3w : ∀ {a b : List Nat}, disj a b = true → ∀ i ∈ a, i ∉ b
 | [], _, _, i, h => by cases h
 | j :: js, b, hd, i, hi => by
  simp only [disj, Z4] at hd
  rcases Z13.1 hi with rfl | hi
  ·intro hb; rw [Q2x.2 hb] at hd; simp at hd
  ·exact Q3w hd.2 i hi
theorem Q43 {a b : List Nat} (ha : a.Nodup) (hb : b.Nodup) (h : disj a b = true) : (a ++ b).Nodup :=
 Z33.2 ⟨ha, hb, fun x hx y hy e => Q3w h x hx (e ▸ hy)⟩
theorem mapD_ownT {w : World} {R : Rh Γ} {M : Nat → List Nat} {own : Nat → Option Nat} {mine : Nat → Prop} (hL : Locs K w R M own mine) {loc : Nat → LV Γ} (hl : R.loc = loc) :
  ∀ (vs : List (AV Γ)) (xs : List Value) (ts : List (T Γ)) (m : List Nat), VRL K w R vs xs → mapD (ownT loc) vs = some (ts, m) →
   m.Nodup ∧ (∀ q ∈ m, (R.loc q).live) ∧ ∀ A' : Nat → Prop, (∀ b, R.A b → A' b) → ∃ L, L.Sublist (m.flatMap M) ∧ OwnL K w A' ts xs L
 | [], _, ts, m, .nil, h => by simp [mapD] at h; obtain ⟨rfl, rfl⟩ := h; exact ⟨by simp, by simp, fun _ _ => ⟨[], by simp, .nil⟩⟩
 | v :: vs, _, ts, m, .cons hv _ hvs, h => by
  simp only [mapD] at h
  split at h
  ·rename_i t m1 h1
   split at h
   ·rename_i ts' m2 h2
    cases hd : disj m1 m2 with
    | false => rw [hd] at h; cases h
    | true =>
     rw [hd] at h; cases h
     obtain ⟨a1, b1, c1⟩ := ownT_sound hL hl hv h1
     obtain ⟨a2, b2, c2⟩ := mapD_ownT hL hl vs _ ts' m2 hvs h2
     refine ⟨Q43 a1 a2 hd, fun q hq => (Z26.1 hq).elim (b1 q) (b2 q), fun A' hA => ?_⟩
     rw [Z105]
     obtain ⟨L1, s1, p1⟩ := c1 A' hA
     obtain ⟨L2, s2, p2⟩ := c2 A' hA
     exact ⟨_, s1.append s2, .cons p1 p2⟩
   ·cases h
  ·cases h
theorem ownV_sound {w : World} {R : Rh Γ} {M : Nat → List Nat} {own : Nat → Option Nat} {mine : Nat → Prop} (hL : Locs K w R M own mine) {loc : Nat → LV Γ} (hl : R.loc = loc) {v : AV Γ} {x : Value} {t : TV Γ} {m : List Nat} (hx : VR K w R v x) (h : ownV loc v = some (t, m)) :
  m.Nodup ∧ (∀ q ∈ m, (R.loc q).live) ∧ ∀ A' : Nat → Prop, (∀ b, R.A b → A' b) → ∃ L, L.Sublist (m.flatMap M) ∧ TvR K w A' t x L := by
 have one : (∀ cs, v ≠ .agg cs) → ∀ t' m', ownT loc v = some (t', m') → t = .one t' → m = m' → m.Nodup ∧ (∀ q ∈ m, (R.loc q).live) ∧ ∀ A' : Nat → Prop, (∀ b, R.A b → A' b) → ∃ L, L.Sublist (m.flatMap M) ∧ TvR K w A' t x L := by
  intro _ t' m' h1 h2 h3
  subst h2; subst h3
  obtain ⟨a, b, c⟩ := ownT_sound hL hl hx h1
  exact ⟨a, b, fun A' hA => let ⟨L1, s1, p1⟩ := c A' hA; ⟨L1, s1, .one p1⟩⟩
 cases v with
 | agg cs =>
  simp only [ownV] at h
  split at h
  ·rename_i ts m' hm
   cases h
   cases hx with
   | agg hvs =>
    obtain ⟨a, b, c⟩ := mapD_ownT hL hl cs _ ts _ hvs hm
    exact ⟨a, b, fun A' hA => let ⟨L1, s1, p1⟩ := c A' hA; ⟨L1, s1, .agg p1⟩⟩
  ·cases h
 | _ =>
  simp only [ownV] at h
  split at h
  ·rename_i t' m' hm; cases h; exact one (by simp) _ _ hm rfl rfl
  ·cases h
theorem lendV_sound {X : CodX K} {w : World} {R : Rh Γ} {M : Nat → List Nat} {own : Nat → Option Nat} {mine : Nat → Prop} (hL : Locs K w R M own mine) {loc : Nat → LV Γ} (hl : R.loc = loc) {v : AV Γ} {x : Value} {t : TV Γ} {m : List Nat} (hx : VR K w R v x) (h : lendV loc v = some (t, m)) :
  (∀ q ∈ m, (R.loc q).live) ∧ ∀ A' : Nat → Prop, (∀ b, R.A b → A' b) → (∀ q ∈ m, ∀ b ∈ M q, A' b) → TvR K w A' t x [] := by
 have one : ∀ t' m', lend loc 4 v = some (t', m') → t = .one t' → m = m' → (∀ q ∈ m, (R.loc q).live) ∧ ∀ A' : Nat → Prop, (∀ b, R.A b → A' b) → (∀ q ∈ m, ∀ b ∈ M q, A' b) → TvR K w A' t x [] := by
  intro t' m' h1 h2 h3
  subst h2; subst h3
  obtain ⟨a, b, c⟩ := lend_sound (X := X) hL hl 4 v x t' m hx h1
  exact ⟨a, fun A' hA hM => .one ((c A' hA hM).toOwn b)⟩
 cases v with
 | agg cs =>
  simp only [lendV] at h
  split at h
  ·rename_i ts m' hm
   cases h
   cases hx with
   | agg hvs =>
    obtain ⟨a, b, c⟩ := Q42 (M := M) (lend_sound (X := X) hL hl 4) cs _ ts _ hvs hm
    exact ⟨a, fun A' hA hM => .agg ((c A' hA hM).toOwn b)⟩
  ·cases h
 | _ =>
  simp only [lendV] at h
  split at h
  ·rename_i t' m' hm; cases h; exact one _ _ hm rfl rfl
  ·cases h
theorem Q44 {X : CodX K} {w : World} {R : Rh Γ} {M : Nat → List Nat} {own : Nat → Option Nat} {mine : Nat → Prop} (hL : Locs K w R M own mine) {loc : Nat → LV Γ} (hl : R.loc = loc) :
  ∀ (ms : List Mode) (vs : List (AV Γ)) (xs : List Value) (ts : List (TV Γ)) (o l : List Nat), VRM K w R vs xs → Q2b loc ms vs = some (ts, o, l) →
   o.Nodup ∧ (∀ q ∈ o, (R.loc q).live) ∧ (∀ q ∈ l, (R.loc q).live) ∧ ∀ A' : Nat → Prop, (∀ b, R.A b → A' b) → (∀ q ∈ l, ∀ b ∈ M q, A' b) → ∃ L, L.Sublist (o.flatMap M) ∧ TvRs K w A' ts xs L
 | [], [], _, ts, o, l, .nil, h => by simp [Q2b] at h; obtain ⟨rfl, rfl, rfl⟩ := h; exact ⟨by simp, by simp, by simp, fun _ _ _ => ⟨[], by simp, .nil⟩⟩
 | [], v :: vs, _, ts, o, l, _, h => by simp [Q2b] at h
 | m :: ms, [], _, ts, o, l, _, h => by cases m <;> simp [Q2b] at h
 | m :: ms, v :: vs, _, ts, o, l, .cons (v := x) (vs := xs) hv hvs, h => by
  have own' : (match ownV loc v, Q2b loc ms vs with
   | some (t, m), some (ts, o, l) => bif disj m o then some (t :: ts, m ++ o, l) else none
   | _, _ => none) = some (ts, o, l) → o.Nodup ∧ (∀ q ∈ o, (R.loc q).live) ∧ (∀ q ∈ l, (R.loc q).live) ∧ ∀ A' : Nat → Prop, (∀ b, R.A b → A' b) → (∀ q ∈ l, ∀ b ∈ M q, A' b) → ∃ L, L.Sublist (o.flatMap M) ∧ TvRs K w A' ts (x :: xs) L := by
   intro h
   split at h
   ·rename_i t m1 ts' o' l' h1 h2
    cases hd : disj m1 o' with
    | false => rw [hd] at h; cases h
    | true =>
     rw [hd] at h; cases h
     obtain ⟨a1, b1, c1⟩ := ownV_sound hL hl hv h1
     obtain ⟨a2, b2, c2, d2⟩ := Q44 (X := X) hL hl ms vs _ ts' o' _ hvs h2
     refine ⟨Q43 a1 a2 hd, fun q hq => (Z26.1 hq).elim (b1 q) (b2 q), c2, fun A' hA hM => ?_⟩
     rw [Z105]
     obtain ⟨L1, s1, p1⟩ := c1 A' hA
     obtain ⟨L2, s2, p2⟩ := d2 A' hA hM
     exact ⟨_, s1.append s2, .cons p1 p2⟩
   ·cases h
  cases m with
  | lend =>
   simp only [Q2b] at h
   split at h
   ·rename_i t m1 ts' o' l' h1 h2
    cases h
    obtain ⟨b1, c1⟩ := lendV_sound (X := X) hL hl hv h1
    obtain ⟨a2, b2, c2, d2⟩ := Q44 (X := X) hL hl ms vs _ ts' _ l' hvs h2
    exact ⟨a2, b2, fun q hq => (Z26.1 hq).elim (b1 q) (c2 q), fun A' hA hM => let ⟨L1, s1, p1⟩ := d2 A' hA fun q hq => hM q (by simp [hq]); ⟨L1, s1, TvRs.cons (L := []) (c1 A' hA fun q hq => hM q (by simp [hq])) p1⟩⟩
   ·cases h
  | keep => exact own' h
  | give => exact own' h
end Go.Ev
/- Calls: their step. -/
namespace Go.Ev
variable {Γ : TypeId → Type} {K : Cod Γ} {β : Type}
inductive AbsR (K : Cod Γ) (w' : World) (R : Rh Γ) (Af : Nat → Prop) : List (Nat × LV Γ) → List Nat → Prop
 | nil : AbsR K w' R Af [] []
 | cons {r g i e ys i' ys' m us Ls} (h1 : R.loc r = .row g i' e ys') (h2 : R.N r) (h3 : Own K w' Af (.sl true i e ys) (R.hdr r) m) (k : AbsR K w' R Af us Ls) : AbsR K w' R Af ((r, .row g i e ys) :: us) (m ++ Ls)
 | box {b t ts t' cs' m us Ls} (h1 : R.loc b = .box t' cs') (h2 : R.N b) (h3 : Own K w' Af (.ptr true t ts) (R.hdr b) m) (hp : ∀ x ∈ ts, x.plain = true) (k : AbsR K w' R Af us Ls) : AbsR K w' R Af ((b, .box t (shT.shL ts)) :: us) (m ++ Ls)
 | skip {m us Ls} (k : AbsR K w' R Af us Ls) : AbsR K w' R Af us (m ++ Ls)
theorem AbsR.append {w' : World} {R : Rh Γ} {Af : Nat → Prop} : ∀ {us vs : List (Nat × LV Γ)} {L L' : List Nat}, AbsR K w' R Af us L → AbsR K w' R Af vs L' → AbsR K w' R Af (us ++ vs) (L ++ L')
 | _, _, _, _, .nil, k => k
 | _, _, _, _, .cons h1 h2 h3 h, k => by rw [Z28]; exact .cons h1 h2 h3 (h.append k)
 | _, _, _, _, .box h1 h2 h3 h4 h, k => by rw [Z28]; exact .box h1 h2 h3 h4 (h.append k)
 | _, _, _, _, .skip h, k => by rw [Z28]; exact .skip (h.append k)
theorem AbsR.none {w' : World} {R : Rh Γ} {Af : Nat → Prop} (L : List Nat) : AbsR K w' R Af [] L := by
 have := AbsR.skip (m := L) (AbsR.nil (K := K) (w' := w') (R := R) (Af := Af))
 rwa [Z30] at this
theorem absT_sound {w' : World} {w : World} {R : Rh Γ} {Af : Nat → Prop} {loc : Nat → LV Γ} (hl : R.loc = loc) {v : AV Γ} {x : Value} {t : T Γ} {L : List Nat} {u : List (Nat × LV Γ)} (hx : VR K w R v x) (ht : Own K w' Af t x L) (h : absT loc v t = some u) : AbsR K w' R Af u L := by
 unfold absT at h
 split at h
 ·rename_i r g i e xs
  cases hr : loc r with
  | row g' i' e' xs' =>
   rw [hr] at h; simp only at h
   cases hC : (g.beq g' && e.beq e') with
   | false => rw [hC] at h; cases h
   | true =>
    rw [hC] at h; cases h
    rw [Z4] at hC
    have hg := beq_eq hC.1
    have he := beq_eq hC.2
    subst hg; subst he
    cases hx with
    | sl hN hs h1 h2 =>
     have hv := h1 i' e xs' (by rw [hl, hr])
     rw [hv] at ht
     have := AbsR.cons (us := []) (by rw [hl, hr]) hN ht .nil
     rwa [Z30] at this
  | _ => rw [hr] at h; cases h
 ·rename_i b t ts
  cases hr : loc b with
  | box t' cs' =>
   rw [hr] at h; simp only at h
   cases hp : allB T.plain ts with
   | false => rw [hp] at h; cases h
   | true =>
    rw [hp] at h; cases h
    obtain ⟨g, hap, hN, hpp⟩ := VR.ptr_inv hx
    have hv := hpp t' cs' (by rw [hl, hr])
    rw [hap, ← hv] at ht
    have := AbsR.box (us := []) (by rw [hl, hr]) hN ht (allB_true hp) .nil
    rwa [Z30] at this
  | _ => rw [hr] at h; cases h
 ·cases h
 ·cases h
 ·cases h; exact AbsR.none L
theorem absL_sound {w' : World} {w : World} {R : Rh Γ} {Af : Nat → Prop} {loc : Nat → LV Γ} (hl : R.loc = loc) : ∀ (vs : List (AV Γ)) (xs : List Value) (ts : List (T Γ)) (L : List Nat) (u : List (Nat × LV Γ)), VRL K w R vs xs → OwnL K w' Af ts xs L → absL loc vs ts = some u → AbsR K w' R Af u L
 | [], _, _, _, u, .nil, .nil, h => by simp [absL] at h; subst h; exact .nil
 | v :: vs, _, _, _, u, .cons hv _ hvs, .cons ht k, h => by
  simp only [absL] at h
  split at h
  ·rename_i u1 u2 h1 h2
   cases h
   exact (absT_sound hl hv ht h1).append (absL_sound hl vs _ _ _ u2 hvs k h2)
  ·cases h
theorem absB_sound {w' : World} {w : World} {R : Rh Γ} {Af : Nat → Prop} {loc : Nat → LV Γ} (hl : R.loc = loc) {v : AV Γ} {x : Value} {t : TV Γ} {L : List Nat} {u : List (Nat × LV Γ)} (hx : VR K w R v x) (ht : TvR K w' Af t x L) (h : absB loc v t = some u) : AbsR K w' R Af u L := by
 cases ht with
 | one hO => cases v <;> exact absT_sound hl hx hO h
 | agg hO =>
  cases v with
  | agg vs =>
   cases hx with
   | agg hvs => exact absL_sound hl _ _ _ _ u hvs hO h
  | _ => simp [absB] at h
theorem Q4s {w' : World} {w : World} {R : Rh Γ} {Af : Nat → Prop} {loc : Nat → LV Γ} (hl : R.loc = loc) : ∀ (vs : List (AV Γ)) (xs : List Value) (ts : List (Option (TV Γ))) (L : List Nat) (u : List (Nat × LV Γ)), VRM K w R vs xs → KeepR K w' Af ts xs L → Q2n loc vs ts = some u → AbsR K w' R Af u L
 | [], _, _, _, u, .nil, .nil, h => by simp [Q2n] at h; subst h; exact .nil
 | v :: vs, _, _, _, u, .cons hv hvs, .none k, h => by
  simp only [Q2n] at h
  exact Q4s hl vs _ _ _ u hvs k h
 | v :: vs, _, _, _, u, .cons hv hvs, .some ht k, h => by
  simp only [Q2n] at h
  split at h
  ·rename_i u1 u2 h1 h2
   cases h
   exact (absB_sound hl hv ht h1).append (Q4s hl vs _ _ _ u2 hvs k h2)
  ·cases h
theorem nodupB_iff : ∀ {is : List Nat}, nodupB is = true → is.Nodup
 | [], _ => Z71
 | i :: is, h => by
  simp only [nodupB, Z4] at h
  refine Z78.2 ⟨fun hm => ?_, nodupB_iff h.2⟩
  rw [Q2x.2 hm] at h; simp at h
theorem AbsR.split {w' : World} {R : Rh Γ} {Af : Nat → Prop} : ∀ {us : List (Nat × LV Γ)} {L : List Nat}, AbsR K w' R Af us L → (us.map (·.1)).Nodup → L.Nodup →
  ∃ f : Nat → List Nat, (∀ r lv, (r, lv) ∈ us → (∃ g i e ys i' ys', lv = .row g i e ys ∧ R.loc r = .row g i' e ys' ∧ R.N r ∧ Own K w' Af (.sl true i e ys) (R.hdr r) (f r)) ∨
    ∃ t ts t' cs', lv = .box t (shT.shL ts) ∧ R.loc r = .box t' cs' ∧ R.N r ∧ Own K w' Af (.ptr true t ts) (R.hdr r) (f r) ∧ ∀ x ∈ ts, x.plain = true) ∧
   (∀ r, r ∈ us.map (·.1) → (f r).Nodup ∧ ∀ b ∈ f r, b ∈ L) ∧ (∀ r r', r ∈ us.map (·.1) → r' ∈ us.map (·.1) → ∀ b, b ∈ f r → b ∈ f r' → r = r')
 | _, _, .nil, _, _ => ⟨fun _ => [], by simp, by simp, by simp⟩
 | _, _, .skip (m := m) k, hn, hd => by
  obtain ⟨f, h1, h2, h3⟩ := k.split hn (Z33.1 hd).2.1
  exact ⟨f, h1, fun r hr => ⟨(h2 r hr).1, fun b hb => by simp [(h2 r hr).2 b hb]⟩, h3⟩
 | _, _, .cons (r := r) (us := us) (m := m) (Ls := Ls) k1 k2 k3 k, hn, hd => by
  rw [Z16, Z78] at hn
  obtain ⟨f, h1, h2, h3⟩ := k.split hn.2 (Z33.1 hd).2.1
  have hne : ∀ q, q ∈ us.map (·.1) → q ≠ r := fun q hq e => hn.1 (e ▸ hq)
  refine ⟨Go.Ev.upd f r m, fun q lv hq => ?_, fun q hq => ?_, fun q q' hq hq' b hb hb' => ?_⟩
  ·rcases Z13.1 hq with e | hq
   ·injection e with e1 e2
    subst e1; subst e2
    rw [Go.Ev.upd_same]
    exact .inl ⟨_, _, _, _, _, _, rfl, k1, k2, k3⟩
   ·have : q ∈ us.map (·.1) := Z18.2 ⟨_, hq, rfl⟩
    rw [Go.Ev.upd_ne _ _ (hne q this)]
    exact h1 q lv hq
  ·rw [Z16] at hq
   rcases Z13.1 hq with rfl | hq
   ·rw [Go.Ev.upd_same]
    exact ⟨(Z33.1 hd).1, fun b hb => by simp [hb]⟩
   ·rw [Go.Ev.upd_ne _ _ (hne q hq)]
    exact ⟨(h2 q hq).1, fun b hb => by simp [(h2 q hq).2 b hb]⟩
  ·rw [Z16] at hq hq'
   rcases Z13.1 hq with e1 | hq1 <;> rcases Z13.1 hq' with e2 | hq2
   ·exact e1.trans e2.symm
   ·simp only at e1
    rw [e1, Go.Ev.upd_same] at hb
    rw [Go.Ev.upd_ne _ _ (hne q' hq2)] at hb'
    exact absurd rfl ((Z33.1 hd).2.2 b hb b ((h2 q' hq2).2 b hb'))
   ·simp only at e2
    rw [e2, Go.Ev.upd_same] at hb'
    rw [Go.Ev.upd_ne _ _ (hne q hq1)] at hb
    exact absurd rfl ((Z33.1 hd).2.2 b hb' b ((h2 q hq1).2 b hb))
   ·rw [Go.Ev.upd_ne _ _ (hne q hq1)] at hb
    rw [Go.Ev.upd_ne _ _ (hne q' hq2)] at hb'
    exact h3 q q' hq1 hq2 b hb hb'
 | _, _, .box (b := r) (us := us) (m := m) (Ls := Ls) k1 k2 k3 k4 k, hn, hd => by
  rw [Z16, Z78] at hn
  obtain ⟨f, h1, h2, h3⟩ := k.split hn.2 (Z33.1 hd).2.1
  have hne : ∀ q, q ∈ us.map (·.1) → q ≠ r := fun q hq e => hn.1 (e ▸ hq)
  refine ⟨Go.Ev.upd f r m, fun q lv hq => ?_, fun q hq => ?_, fun q q' hq hq' b hb hb' => ?_⟩
  ·rcases Z13.1 hq with e | hq
   ·injection e with e1 e2
    subst e1; subst e2
    rw [Go.Ev.upd_same]
    exact .inr ⟨_, _, _, _, rfl, k1, k2, k3, k4⟩
   ·have : q ∈ us.map (·.1) := Z18.2 ⟨_, hq, rfl⟩
    rw [Go.Ev.upd_ne _ _ (hne q this)]
    exact h1 q lv hq
  ·rw [Z16] at hq
   rcases Z13.1 hq with rfl | hq
   ·rw [Go.Ev.upd_same]
    exact ⟨(Z33.1 hd).1, fun b hb => by simp [hb]⟩
   ·rw [Go.Ev.upd_ne _ _ (hne q hq)]
    exact ⟨(h2 q hq).1, fun b hb => by simp [(h2 q hq).2 b hb]⟩
  ·rw [Z16] at hq hq'
   rcases Z13.1 hq with e1 | hq1 <;> rcases Z13.1 hq' with e2 | hq2
   ·exact e1.trans e2.symm
   ·simp only at e1
    rw [e1, Go.Ev.upd_same] at hb
    rw [Go.Ev.upd_ne _ _ (hne q' hq2)] at hb'
    exact absurd rfl ((Z33.1 hd).2.2 b hb b ((h2 q' hq2).2 b hb'))
   ·simp only at e2
    rw [e2, Go.Ev.upd_same] at hb'
    rw [Go.Ev.upd_ne _ _ (hne q hq1)] at hb
    exact absurd rfl ((Z33.1 hd).2.2 b hb' b ((h2 q hq1).2 b hb))
   ·rw [Go.Ev.upd_ne _ _ (hne q hq1)] at hb
    rw [Go.Ev.upd_ne _ _ (hne q' hq2)] at hb'
    exact h3 q q' hq1 hq2 b hb hb'
theorem Q3J (l : Nat → LV Γ) : ∀ (us : List (Nat × LV Γ)) (j : Nat), (j ∈ us.map (·.1) → ∃ lv, (j, lv) ∈ us ∧ Qp l us j = lv) ∧ (j ∉ us.map (·.1) → Qp l us j = l j)
 | [], j => ⟨fun h => by simp at h, fun _ => rfl⟩
 | (i, lv) :: us, j => by
  obtain ⟨h1, h2⟩ := Q3J l us j
  rw [Q1L]
  by_cases e : j = i
  ·subst e
   refine ⟨fun _ => ⟨lv, by simp, by simp⟩, fun h => by simp at h⟩
  ·rw [Go.Ev.upd_ne _ _ e]
   refine ⟨fun h => ?_, fun h => h2 fun h' => h (by simp at h' ⊢; exact .inr h')⟩
   rw [Z16] at h
   rcases Z13.1 h with h | h
   ·exact absurd h e
   ·obtain ⟨lv', h3, h4⟩ := h1 h
    exact ⟨lv', by simp [h3], h4⟩
theorem own_len {w w' : World} {A A' : Nat → Prop} {i i' : Bool} {e : TypeId} {xs ys : List (Γ e)} {h : Value} {L L' : List Nat} (h1 : Own K w A (.sl true i e xs) h L) (h2 : Own K w' A' (.sl true i' e ys) h L') : xs.length = ys.length := by
 obtain ⟨a, c, e1, _⟩ := Q3E h1
 obtain ⟨a', c', e2, _⟩ := Q3E h2
 rw [e1] at e2
 injection e2
theorem after_call {w0 : World} {L0 : Fm} {X : CodX K} {w w' : World} {R : Rh Γ} {M : Nat → List Nat} {own : Nat → Option Nat} (hL : Locs K w R M own (mine w0 L0)) (hF : Fr w0 L0 w) {o l : List Nat} (hon : o.Nodup) (hol : ∀ q ∈ o, (R.loc q).live) (hll : ∀ q ∈ l, (R.loc q).live)
  {loc : Nat → LV Γ} (hloc : R.loc = loc) {args : List (AV Γ)} {xs : List Value} (hargs : VRM K w R args xs) {r : Res Γ} {v : Value}
  (hP : Post K w (fun b => R.A b ∨ ∃ q ∈ l, b ∈ M q) (o.flatMap M) xs r v w') (hsh : ((sharesV X.flat r.1 || anyB (sharesO X.flat) r.2) && !(l.isEmpty)) = false)
  {u : List (Nat × LV Γ)} (hu : Q2n loc args r.2 = some u) (huo : u.all (fun p => memN p.1 o) = true) (hun : nodupB (u.map (·.1)) = true) {n B : Nat} (hn : ∀ q, n ≤ q → q < B → ¬ R.N q) (hB : (impV n r.1).2.2 ≤ B) :
  ∃ R' M' own', Qh R R' ∧ Same R.A w w' ∧ R'.loc = Qp loc ((impV n r.1).2.1 ++ (u ++ kill o)) ∧ (∀ q, R'.N q → R.N q ∨ (n ≤ q ∧ q < B)) ∧ Locs K w' R' M' own' (mine w0 L0) ∧ Fr w0 L0 w' ∧ VR K w' R' (impV n r.1).1 v ∧ (∀ b, R'.A b → R.A b ∨ mine w0 L0 b) := by
 obtain ⟨⟨A', Lr, Lk, hA1, hA2, hR, hK, hnd, hb⟩, p1, p2, p3, p6, p4, p5⟩ := hP
 obtain ⟨hfn, hfl⟩ := hL.flat o hon hol
 -- what is stable from here on
 have hAf : ∃ Af : Nat → Prop, (∀ b, R.A b → Af b) ∧ (∀ b, Af b → R.A b ∨ ((b ∈ o.flatMap M ∨ w.heap.size ≤ b) ∧ b < w'.heap.size)) ∧ ResR K w' Af r.1 v Lr ∧ KeepR K w' Af r.2 xs Lk ∧ ∀ b ∈ Lr ++ Lk, ¬ Af b := by
  cases hle : l.isEmpty with
  | true =>
   have hl0 : l = [] := by simpa using hle
   subst hl0
   exact ⟨A', fun b hb => hA1 b (.inl hb), fun b hb => (hA2 b hb).imp (fun h => by simpa using h) id, hR, hK, fun b hb' => (hb b hb').2.1⟩
  | false =>
   rw [hle] at hsh
   simp only [Z62, Bool.and_true, Bool.or_eq_false_iff] at hsh
   exact ⟨R.A, fun b h => h, fun b h => .inl h, hR.unshare hsh.1, hK.unshare (Q3I hsh.2), fun b hb' hA => (hb b hb').2.1 (hA1 b (.inl hA))⟩
 obtain ⟨Af, hAf1, hAf2, hR, hK, hbA⟩ := hAf
 have hnd' := Z33.1 hnd
 have hsA : Same R.A w w' := fun b hb' => p5 b (hL.alt b hb') fun hm => (hfl b hm).2.2.2 hb'
 have hmine : ∀ b ∈ Lr ++ Lk, mine w0 L0 b := fun b hb' => by
  rcases (hb b hb').2.2 with h | h
  ·exact (hfl b h).2.2.1
  ·exact .inl (Z35 hF.size h)
 have hFr : Fr w0 L0 w' := hF.step p1 p2 p3 p6 p4 fun b hb' hm => p5 b hb' fun h => hm (hfl b h).2.2.1
 -- of a place that stays: its blocks
 have stay : ∀ j, (R.loc j).live → j ∉ o → ∀ b ∈ M j, w'.heap[b]? = w.heap[b]? ∧ b ∉ Lr ++ Lk ∧ ¬ Af b := by
  intro j hj hjo b hbj
  have ho := hL.own j hj b hbj
  have hlt := hL.lt j hj b hbj
  have hno : b ∉ o.flatMap M := fun hm => by
   obtain ⟨⟨q, hq, hoq⟩, _⟩ := hfl b hm
   rw [ho] at hoq; exact hjo (Option.some.inj hoq ▸ hq)
  refine ⟨p5 b hlt.1 hno, fun hm => ?_, fun hA => ?_⟩
  ·rcases (hb b hm).2.2 with h | h
   ·exact hno h
   ·omega
  ·rcases hAf2 b hA with h | ⟨h | h, _⟩
   ·exact hlt.2.2 h
   ·exact hno h
   ·omega
 -- the state behind the call, before the results are taken in
 have mid : ∃ R2 M2 own2, Qh R R2 ∧ R2.A = Af ∧ R2.N = R.N ∧ R2.loc = Qp loc (u ++ kill o) ∧ Locs K w' R2 M2 own2 (mine w0 L0) ∧ ∀ j, (R2.loc j).live → ∀ b ∈ M2 j, b ∉ Lr := by
  obtain ⟨f, f1, f2, f3⟩ := (Q4s hloc args xs r.2 Lk u hargs hK hu).split (nodupB_iff hun) hnd'.2.1
  let ids := u.map (·.1)
  have hids : ∀ j, j ∈ ids → j ∈ o := fun j hj => by
   obtain ⟨p, hp, rfl⟩ := Z18.1 hj
   exact Q2x.1 (Z49.1 huo p hp)
  have hin : ∀ j, j ∈ ids → (∃ g i e ys i' ys', Qp loc (u ++ kill o) j = .row g i e ys ∧ R.loc j = .row g i' e ys' ∧ R.N j ∧ Own K w' Af (.sl true i e ys) (R.hdr j) (f j) ∧ ys.length = ys'.length) ∨
    ∃ t ts t' cs', Qp loc (u ++ kill o) j = .box t (shT.shL ts) ∧ R.loc j = .box t' cs' ∧ R.N j ∧ Own K w' Af (.ptr true t ts) (R.hdr j) (f j) ∧ ∀ x ∈ ts, x.plain = true := by
   intro j hj
   rw [Q3v]
   obtain ⟨lv, h1, h2⟩ := (Q3J (Qp loc (kill o)) u j).1 hj
   rcases f1 j lv h1 with ⟨g, i, e, ys, i', ys', e1, e2, e3, e4⟩ | ⟨t, ts, t', cs', e1, e2, e3, e4, e5⟩
   ·have hlr := hL.lr j
    rw [e2] at hlr
    exact .inl ⟨g, i, e, ys, i', ys', h2.trans e1, e2, e3, e4, own_len e4 hlr⟩
   ·exact .inr ⟨t, ts, t', cs', h2.trans e1, e2, e3, e4, e5⟩
  have hout : ∀ j, j ∉ ids → Qp loc (u ++ kill o) j = if j ∈ o then .dead else R.loc j := by
   intro j hj
   rw [Q3v, (Q3J (Qp loc (kill o)) u j).2 hj, ← hloc, updLoc_kill]
   exact Q3G R o j
  have hc : Qh R { R with A := Af, loc := Qp loc (u ++ kill o) } := by
   refine ⟨hAf1, fun _ h => h, fun j _ g1 i1 e1 xs1 h => ?_, fun j _ g1 i1 e1 xs1 h => ?_, fun j _ t cs h => ?_⟩ <;> simp only at h <;> by_cases hj : j ∈ ids
   ·rcases hin j hj with ⟨g, i, e, ys, i', ys', k1, k2, k3, k4, k5⟩ | ⟨t, ts, t', cs', k1, _⟩
    ·rw [k1] at h
     injection h with h1 h2 h3 h4
     subst h1; subst h3
     have h4 := eq_of_heq h4
     subst h4
     exact ⟨rfl, i', ys', by rw [k2], k5.symm⟩
    ·rw [k1] at h; cases h
   ·rw [hout j hj] at h
    split at h
    ·cases h
    ·exact ⟨rfl, i1, xs1, h, rfl⟩
   ·rcases hin j hj with ⟨g, i, e, ys, i', ys', k1, _⟩ | ⟨t, ts, t', cs', k1, _⟩ <;> (rw [k1] at h; cases h)
   ·rw [hout j hj] at h
    split at h
    ·cases h
    ·exact ⟨rfl, .inr ⟨i1, e1, xs1, h⟩⟩
   ·rcases hin j hj with ⟨g, i, e, ys, i', ys', k1, _⟩ | ⟨t', ts, t2, cs', k1, k2, _⟩
    ·rw [k1] at h; cases h
    ·exact ⟨rfl, t2, cs', k2⟩
   ·rw [hout j hj] at h
    split at h
    ·cases h
    ·exact ⟨rfl, t, cs, h⟩
  have hcase : ∀ j, j ∉ ids → (Qp loc (u ++ kill o) j).live → j ∉ o ∧ (R.loc j).live ∧ Qp loc (u ++ kill o) j = R.loc j := by
   intro j hji hj
   have h := hout j hji
   rw [h] at hj ⊢
   by_cases hjo : j ∈ o
   ·rw [if_pos hjo] at hj; exact hj.elim
   ·rw [if_neg hjo] at hj ⊢
    exact ⟨hjo, hj, rfl⟩
  refine ⟨{ R with A := Af, loc := Qp loc (u ++ kill o) }, fun j => if j ∈ ids then f j else M j, fun b => match ids.find? (fun r => decide (b ∈ f r)) with | some r => some r | none => own b, hc, rfl, rfl, rfl, hL.after hc hsA (fun j g1 i1 e1 xs1 h => ?_) (fun j hj => ?_) p4 (fun b hb' => ?_), fun j hj b hb' => ?_⟩
  ·simp only at h
   by_cases hji : j ∈ ids
   ·rcases hin j hji with ⟨g, i, e, ys, i', ys', k1, _⟩ | ⟨t, ts, t', cs', k1, _⟩ <;> (rw [k1] at h; cases h)
   ·rw [hout j hji] at h
    split at h
    ·cases h
    ·exact ⟨h, rfl⟩
  ·by_cases hji : j ∈ ids
   ·right
    simp only [hji, if_true]
    refine ⟨?_, (f2 j hji).1, fun b hb' => ?_⟩
    ·rcases hin j hji with ⟨g, i, e, ys, i', ys', k1, k2, k3, k4, k5⟩ | ⟨t, ts, t', cs', k1, k2, k3, k4, k5⟩
     ·rw [k1]; exact k4
     ·rw [k1]
      cases hh : R.hdr j with
      | pointer ad =>
       rw [hh] at k4
       generalize hf : f j = fj at k4
       cases k4 with
       | ptr hg hl =>
        rename_i gb cc L'
        obtain ⟨hro, hLe⟩ := hl.shared k5
        subst hLe
        exact ⟨gb, cc, rfl, rfl, hg, VR.shT.go (R := { R with A := Af, loc := Qp loc (u ++ kill o) }) hro⟩
      | _ => rw [hh] at k4; cases k4
    have hbk : b ∈ Lr ++ Lk := by simp [(f2 j hji).2 b hb']
    refine ⟨?_, (hb b hbk).1, hmine b hbk, hbA b hbk⟩
    cases hfd : ids.find? (fun r => decide (b ∈ f r)) with
    | none => have := List.find?_eq_none.1 hfd j hji; simp [hb'] at this
    | some q =>
     have h1 := List.find?_some hfd
     have h2 := List.mem_of_find?_eq_some hfd
     simp only at h1 ⊢
     rw [f3 j q hji h2 b hb' (of_decide_eq_true h1)]
   ·left
    obtain ⟨hjo, hjl, hje⟩ := hcase j hji hj
    simp only [hji, if_false]
    refine ⟨hje, trivial, trivial, fun b hb' => ⟨(stay j hjl hjo b hb').1, ?_, (stay j hjl hjo b hb').2.2⟩⟩
    cases hfd : ids.find? (fun r => decide (b ∈ f r)) with
    | none => exact hL.own j hjl b hb'
    | some q =>
     have h1 := List.find?_some hfd
     have h2 := List.mem_of_find?_eq_some hfd
     exact absurd ((f2 q h2).2 b (of_decide_eq_true h1)) fun h => (stay j hjl hjo b hb').2.1 (by simp [h])
  ·rcases hAf2 b hb' with h | h
   ·exact Z54 (hL.alt b h) p4
   ·exact h.2
  ·by_cases hji : j ∈ ids
   ·simp only [hji, if_true] at hb'
    exact fun h => hnd'.2.2 b h b ((f2 j hji).2 b hb') rfl
   ·simp only [hji, if_false] at hb'
    obtain ⟨hjo, hjl, hje⟩ := hcase j hji hj
    exact fun h => (stay j hjl hjo b hb').2.1 (by simp [h])
 obtain ⟨R2, M2, own2, hc2, hA2', hN2, hloc2, hL2, hfree2⟩ := mid
 obtain ⟨R3, M3, own3, hi, hv⟩ := impV_sound hL2 (B := B) (n := n) (t := r.1) (fun q h1 h2 => by rw [hN2]; exact hn q h1 h2) hB (by rw [hA2']; exact hR) hfree2 hnd'.1 (fun b hb' => ⟨(hb b (by simp [hb'])).1, hmine b (by simp [hb']), by rw [hA2']; exact hbA b (by simp [hb'])⟩)
 refine ⟨R3, M3, own3, hc2.trans hi.compat, hsA, by rw [hi.loc, hloc2, Q3v _ _ (u ++ kill o)], fun q hq => (hi.N q hq).imp (fun h => by rw [hN2] at h; exact h) (fun h => ⟨h.1, Z54 h.2 hB⟩), hi.locs, hFr, hv, fun b hb => ?_⟩
 rw [hi.A, hA2'] at hb
 exact (hAf2 b hb).imp id fun h => h.1.elim (fun h => (hfl b h).2.2.1) fun h => .inl (Z35 hF.size h)
theorem boxF_sound {P : Program} {c : Ctx Γ K β} {st : St Γ} {n f : Nat} {args : List (AV Γ)} {kk : Act Γ → Option β} {b : β} {cal : Callee Γ β} {t : TypeId} {g : Nat} (hB : Boxes P f t g) (hg : c.G f = some cal) (hbx : cal.boxer = some (t, g)) (h : boxF n t g args kk = some b) :
  ∃ act : Act Γ, (∀ kk' : Act Γ → Option β, callF c st n f args kk' = kk' act) ∧
   ∀ (w0 : World) (L0 : Fm) (w : World) (R : Rh Γ) (M : Nat → List Nat) (own : Nat → Option Nat) (xs : List Value), R.loc = st.loc → Locs K w R M own (mine w0 L0) → Fr w0 L0 w → VRM K w R args xs → (∀ q, n ≤ q → q < n + 32 → ¬ R.N q) →
    CallsF P f xs.toArray w fun v w' => ∃ R' M' own', Qh R R' ∧ Same R.A w w' ∧ R'.loc = Qp st.loc act.upd ∧ (∀ q, R'.N q → R.N q ∨ (n ≤ q ∧ q < n + 32)) ∧ Locs K w' R' M' own' (mine w0 L0) ∧ Fr w0 L0 w' ∧ VR K w' R' act.val v ∧ (∀ b, R'.A b → R.A b ∨ mine w0 L0 b) := by
 match args, h with
 | [a], h =>
  simp only [boxF] at h
  cases hok : a.cellsOk with
  | false => rw [hok] at h; cases h
  | true =>
   refine ⟨⟨.fn g [.ptr n 0], [(n, .box t a.cellsOf)]⟩, fun kk' => by simp only [callF, hg, hbx, boxF, hok, cond_true], fun w0 L0 w R M own xs hl hL hF hxs hn => ?_⟩
   cases hxs with
   | cons hv k =>
    cases k
    rename_i v
    intro o ac next Q hnext
    refine hB v w o ac next Q fun r w' hr => hnext r w' ?_
    obtain ⟨rfl, rfl⟩ := hr
    have hn0 : ¬ R.N n := hn n (Z7 _) (by omega)
    refine ⟨R.new n (.box t a.cellsOf) (.pointer (some ⟨w.heap.size, 0, none⟩)), Go.Ev.upd M n [w.heap.size], Go.Ev.upd own w.heap.size (some n), Qh.new hn0 _ _, hL.sameA fun b hb => Q2C w _ hb, ?_, fun q hq => ?_, ?_, hF.alloc _, ?_, fun b hb => .inl hb⟩
    ·rw [Q1L, ← hl]; rfl
    ·rcases hq with h | h
     ·exact .inl h
     ·exact .inr (by omega)
    ·have := hL.newBox hn0 (Q3g hF) t (Q33 hv hok)
     simpa using this
    ·exact .fn (.cons (ptr_new _ R n t _ _ 0) rfl .nil)
theorem callF_sound {P : Program} {c : Ctx Γ K β} (hG : ∀ f cal, c.G f = some cal → Con P K f cal) {st : St Γ} {n f : Nat} {args : List (AV Γ)} {kk : Act Γ → Option β} {b : β} (h : callF c st n f args kk = some b) :
  ∃ act : Act Γ, (∀ kk' : Act Γ → Option β, callF c st n f args kk' = kk' act) ∧
   ∀ (w0 : World) (L0 : Fm) (w : World) (R : Rh Γ) (M : Nat → List Nat) (own : Nat → Option Nat) (xs : List Value), R.loc = st.loc → Locs K w R M own (mine w0 L0) → Fr w0 L0 w → VRM K w R args xs → (∀ q, n ≤ q → q < n + 32 → ¬ R.N q) →
    CallsF P f xs.toArray w fun v w' => ∃ R' M' own', Qh R R' ∧ Same R.A w w' ∧ R'.loc = Qp st.loc act.upd ∧ (∀ q, R'.N q → R.N q ∨ (n ≤ q ∧ q < n + 32)) ∧ Locs K w' R' M' own' (mine w0 L0) ∧ Fr w0 L0 w' ∧ VR K w' R' act.val v ∧ (∀ b, R'.A b → R.A b ∨ mine w0 L0 b) := by
 unfold callF at h
 cases hg : c.G f with
 | none => rw [hg] at h; cases h
 | some cal =>
  rw [hg] at h; simp only at h
  cases hbx : cal.boxer with
  | some tg =>
   obtain ⟨t, g⟩ := tg
   rw [hbx] at h; simp only at h
   exact boxF_sound ((hG f cal hg).box t g hbx) hg hbx h
  | none =>
  rw [hbx] at h; simp only at h
  cases he : Q2b st.loc cal.modes args with
  | none => rw [he] at h; cases h
  | some tol =>
   obtain ⟨tvs, o, l⟩ := tol
   rw [he] at h; simp only at h
   cases hd : disj o l with
   | false => rw [hd] at h; cases h
   | true =>
    rw [hd] at h; simp only [cond_true] at h
    obtain ⟨r, hnat, hcon⟩ := (hG f cal hg).sem tvs _ b h
    rw [hnat] at h
    cases hsh : ((sharesV c.X.flat r.1 || anyB (sharesO c.X.flat) r.2) && !(l.isEmpty)) with
    | true => rw [hsh] at h; cases h
    | false =>
     rw [hsh] at h; simp only [cond_false] at h
     cases hu : Q2n st.loc args r.2 with
     | none => rw [hu] at h; cases h
     | some u =>
      rw [hu] at h; simp only at h
      cases hq : ((impV n r.1).2.2.ble (n + 32) && u.all (fun p => memN p.1 o) && nodupB (u.map (·.1))) with
      | false => rw [hq] at h; cases h
      | true =>
       refine ⟨_, fun kk' => by simp only [callF, hg, hbx, he, hd, cond_true, hnat, hsh, cond_false, hu, hq]; rfl, fun w0 L0 w R M own xs hl hL hF hxs hn => ?_⟩
       simp only [Z4] at hq
       obtain ⟨hon, hol, hll, hex⟩ := Q44 (X := c.X) hL hl cal.modes args xs tvs o l hxs he
       obtain ⟨hfn, hfl⟩ := hL.flat o hon hol
       obtain ⟨Ls, hLs, hT⟩ := hex (fun b => R.A b ∨ ∃ q ∈ l, b ∈ M q) (fun b hb => .inl hb) (fun q hq b hb => .inr ⟨q, hq, hb⟩)
       have hC := hcon w (fun b => R.A b ∨ ∃ q ∈ l, b ∈ M q) xs Ls hT (hfn.sublist hLs) (fun b hb => have hb := hLs.subset hb; ⟨(hfl b hb).2.1, fun hA => by
        rcases hA with hA | ⟨q, hq, hbq⟩
        ·exact (hfl b hb).2.2.2 hA
        ·obtain ⟨⟨q', hq', ho'⟩, _⟩ := hfl b hb
         rw [hL.own q (hll q hq) b hbq] at ho'
         exact Q3w hd q' hq' (Option.some.inj ho' ▸ hq)⟩) (fun b hA => by
        rcases hA with hA | ⟨q, hq, hbq⟩
        ·exact hL.alt b hA
        ·exact (hL.lt q (hll q hq) b hbq).1)
       intro op a next Q hnext
       exact hC op a next Q fun v w' hP => hnext v w' (after_call hL hF hon hol hll hl hxs (hP.more fun b hb => hLs.subset hb) hsh hu hq.1.2 hq.2 hn (Q2i hq.1.1))
end Go.Ev
/- Each operation's step: all of them. -/
namespace Go.Ev
variable {Γ : TypeId → Type} {K : Cod Γ} {β : Type}
theorem Q4t {c : Ctx Γ K β} {st : St Γ} : ∀ (xs : List Operand) (ts : List TypeId) (m : Nat) {kk : List (AV Γ) → List (Nat × LV Γ) → Option β} {b : β}, Q2B c st m xs ts kk = some b →
  ∃ vs u, (∀ kk' : List (AV Γ) → List (Nat × LV Γ) → Option β, Q2B c st m xs ts kk' = kk' vs u) ∧
   ∀ (w : World) (R : Rh Γ) (M : Nat → List Nat) (own : Nat → Option Nat) (mine : Nat → Prop) (ev : Operand → Value), Locs K w R M own mine → (∀ x, VR K w R (st.ev x) (ev x)) → (∀ r, m ≤ r → r < m + xs.length → ¬ R.N r) →
    ∃ R' M', R'.loc = Qp R.loc u ∧ R'.A = R.A ∧ (∀ r, R'.N r → R.N r ∨ (m ≤ r ∧ r < m + xs.length)) ∧ Qh R R' ∧ Locs K w R' M' own mine ∧ VRM K w R' vs (xs.map ev)
 | [], ts, m, kk, b, h => by
  cases ts with
  | nil => exact ⟨[], [], fun _ => rfl, fun w R M own mine ev hL _ _ => ⟨R, M, rfl, rfl, fun r h => .inl h, Qh.refl R, hL, .nil⟩⟩
  | cons t ts => exact ⟨[], [], fun _ => rfl, fun w R M own mine ev hL _ _ => ⟨R, M, rfl, rfl, fun r h => .inl h, Qh.refl R, hL, .nil⟩⟩
 | x :: xs, [], m, kk, b, h => by cases h
 | x :: xs, t :: ts, m, kk, b, h => by
  simp only [Q2B] at h
  obtain ⟨act, h1, _, _, h2⟩ := Q3c h
  rw [h1] at h
  obtain ⟨vs, u, h3, h4⟩ := Q4t xs ts (m + 1) h
  refine ⟨act.val :: vs, u ++ act.upd, fun kk' => by simp only [Q2B]; rw [h1, h3], fun w R M own mine ev hL hev hf => ?_⟩
  obtain ⟨R1, M1, e1, e2, e3, hc1, hL1, hv1⟩ := h2 w R M own mine (ev x) hL (hev x) (hf m (Z7 _) (by rw [Z2]; omega))
  obtain ⟨R2, M2, k1, k2, k3, hc2, hL2, hv2⟩ := h4 w R1 M1 own mine ev hL1 (fun y => (hev y).move hc1 (fun _ _ => rfl)) (fun r h1 h2 hN => by
   rcases e3 r hN with h | h
   ·exact hf r (by omega) (by rw [Z2]; omega) h
   ·omega)
  refine ⟨R2, M2, by rw [k1, e1, Q3v], k2.trans e2, fun r hr => ?_, hc1.trans hc2, hL2, .cons (hv1.move hc2 (fun _ _ => rfl)) hv2⟩
  rcases k3 r hr with h | h
  ·rcases e3 r h with h | h
   ·exact .inl h
   ·exact .inr (by rw [Z2]; omega)
  ·exact .inr (by rw [Z2]; omega)
theorem VRL.toM {w : World} {R : Rh Γ} : ∀ {ys : List (AV Γ)} {us : List Value}, VRL K w R ys us → VRM K w R ys us
 | _, _, .nil => .nil
 | _, _, .cons h _ k => .cons h k.toM
theorem VRM.appendL {w : World} {R : Rh Γ} : ∀ {xs : List (AV Γ)} {vs : List Value} {ys : List (AV Γ)} {us : List Value}, VRM K w R xs vs → VRL K w R ys us → VRM K w R (xs ++ ys) (vs ++ us)
 | _, _, _, _, .nil, k => k.toM
 | _, _, _, _, .cons h hs, k => .cons h (hs.appendL k)
theorem call_sound {P : Program} {c : Ctx Γ K β} (hG : ∀ f cal, c.G f = some cal → Con P K f cal) {w0 : World} {L0 : Fm} {st : St Γ} {n : Nat} {o : Oper} {cl : Call} (ho : o.op = .call cl) {f : Operand} (hcl : cl.callee = .value f) {g : Nat} {caps : List (AV Γ)} (hf : st.ev f = .fn g caps)
  (hlen : cl.args.toList.length ≤ 30) {kk : Act Γ → Option β} {b : β}
  (h : Q2B c st (n + 32) cl.args.toList cl.argTypes.toList (fun vs u => callF c { st with loc := Qp st.loc u } n g (vs ++ caps) fun a => kk ⟨a.val, a.upd ++ u⟩) = some b) :
  Q2h P K w0 L0 st n o (fun kk => Q2B c st (n + 32) cl.args.toList cl.argTypes.toList (fun vs u => callF c { st with loc := Qp st.loc u } n g (vs ++ caps) fun a => kk ⟨a.val, a.upd ++ u⟩)) := by
 obtain ⟨vs, u, h1, h2⟩ := Q4t _ _ _ h
 rw [h1] at h
 obtain ⟨act, h3, h4⟩ := callF_sound hG h
 refine ⟨⟨act.val, act.upd ++ u⟩, fun kk' => by simp only [h1, h3], ?_⟩
 intro N a w hS hfr hd Kn Q hK
 obtain ⟨R, M, own, hN, hx⟩ := hS
 obtain ⟨R1, M1, e1, e2, e3, hc1, hL1, hv1⟩ := h2 w R M own (mine w0 L0) a.eval hx.locs (fun x => hx.ev x) (fun r h1 h2 => by rw [hN]; exact hfr r (by omega) (by omega))
 have hfv := hx.ev f
 rw [hf] at hfv
 generalize hfe : a.eval f = fv at hfv
 cases hfv with
 | fn hcaps =>
  rename_i cvs
  have hargs := hv1.appendL (hcaps.move hc1 (fun _ _ => rfl))
  have hC := h4 w0 L0 w R1 M1 own (cl.args.toList.map a.eval ++ cvs) (by rw [e1, hx.hl]) hL1 hx.fr hargs (fun q h1 h2 hq => by
   rcases e3 q hq with h | h
   ·rw [hN] at h; exact hfr q h1 (by omega) h
   ·omega)
  have hrun : (execOp a.eval o).run P w = (callFunc g (cl.args.toList.map a.eval ++ cvs).toArray).run P w := by
   unfold execOp
   simp only [ho, resolve, hcl, hfe, Deferred.ofValue, Z17, Z46, Z24, invoke]
   congr 2
   simp
  unfold Oper.wp
  rw [hrun]
  refine hC o a Kn Q fun v w' hR => ?_
  obtain ⟨R', M', own', hcc, hss, hlo, hNN, hLL, hFF, hVV, hAA⟩ := hR
  refine hK _ _ (SR.mono (N := R'.N) ⟨R', M', own', rfl, hx.upd (hc1.trans hcc) (fun b hb => hss b (by rw [e2]; exact hb)) ⟨act.val, act.upd ++ u⟩ ?_ hLL hFF (fun b hb => by have := hAA b hb; rw [e2] at this; exact this) o.dst hd hVV⟩ fun r hr => ?_)
  ·rw [hlo, Q3v]
  ·rcases hNN r hr with h | h
   ·rcases e3 r h with h | h
    ·rw [hN] at h; exact .inl h
    ·exact .inr (by omega)
   ·exact .inr (by omega)
theorem run_builtin {P : Program} {o : Oper} {cl : Call} {b : Builtin} (ho : o.op = .call cl) (hc : cl.callee = .builtin b) {ev : Operand → Value} {w : World} :
  (execOp ev o).run P w = (Go.builtin b cl.argTypes o.type (cl.args.map fun | .const _ => true | _ => false) (cl.args.map ev)).run P w := by
 unfold execOp
 simp only [ho, resolve, hc, Z17, Z46, Z24, invoke]
 rfl
theorem minmax_sound {P : Program} {mx : Bool} : ∀ (xs : List (AV Γ)) (x : AV Γ) {kk : AV Γ → Option β} {b : β}, Q29 mx x xs kk = some b →
  ∃ v, (∀ kk' : AV Γ → Option β, Q29 mx x xs kk' = kk' v) ∧ ∀ (w : World) (R : Rh Γ) (xv : Value) (vs : List Value), VR K w R x xv → VRM K w R xs vs →
   ∃ r, (vs.foldlM (bif mx then Builtin.max2 else Builtin.min2) xv : Sem Value).run P w = .ok r w ∧ VR K w R v r
 | [], x, kk, b, h => by
  cases x with
  | int k a => exact ⟨.int k a, fun kk' => rfl, fun w R xv vs hx hvs => by cases hvs; exact ⟨xv, rfl, hx⟩⟩
  | _ => simp [Q29] at h
 | y :: ys, x, kk, b, h => by
  cases x with
  | int k a =>
   cases y with
   | int k' b' =>
    simp only [Q29] at h
    split at h
    ·rename_i hk
     subst hk
     obtain ⟨v, h1, h2⟩ := minmax_sound (P := P) ys _ h
     refine ⟨v, fun kk' => by simp only [Q29, if_true]; exact h1 kk', fun w R xv vs hx hvs => ?_⟩
     cases hx
     cases hvs with
     | cons hy hys =>
      cases hy
      obtain ⟨r, h3, h4⟩ := h2 w R (.int k (bif mx then (if b' > a then b' else a) else (if b' < a then b' else a))) _ (.int _ _) hys
      refine ⟨r, ?_, h4⟩
      rw [List.foldlM_cons, Z17]
      cases mx with
      | true => exact h3
      | false => exact h3
    ·cases h
   | _ => simp [Q29] at h
  | _ => simp [Q29] at h
theorem evs_vrm {w : World} {R : Rh Γ} {st : St Γ} {a : Go.Act} (hev : ∀ x, VR K w R (st.ev x) (a.eval x)) : ∀ xs : List Operand, VRM K w R (xs.map st.ev) (xs.map a.eval)
 | [] => .nil
 | x :: xs => .cons (hev x) (evs_vrm hev xs)
theorem Q4K {P : Program} {w0 : World} {L0 : Fm} {st : St Γ} {n : Nat} {o : Oper} {cl : Call} (ho : o.op = .call cl) {mx : Bool} (hc : cl.callee = .builtin (bif mx then .max else .min)) {x : AV Γ} {r : List (AV Γ)} (hx : cl.args.toList.map st.ev = x :: r) {kk : Act Γ → Option β} {b : β}
  (h : Q29 mx x r (fun v => kk ⟨v, []⟩) = some b) : Q2h P K w0 L0 st n o (fun kk : Act Γ → Option β => Q29 mx x r (fun v => kk ⟨v, []⟩)) := by
 obtain ⟨v, h1, h2⟩ := minmax_sound (P := P) (K := K) r x h
 refine ⟨⟨v, []⟩, fun kk' => h1 _, Q2l fun R M own a w hsx => ?_⟩
 have hvs := evs_vrm (fun y => hsx.ev y) cl.args.toList
 rw [hx] at hvs
 generalize hvv : cl.args.toList.map a.eval = us at hvs
 cases hvs with
 | cons hy hys =>
  obtain ⟨res, h3, h4⟩ := h2 w R _ _ hy hys
  refine ⟨res, ?_, h4⟩
  rw [run_builtin ho hc]
  have e : (cl.args.map a.eval).toList = _ := (Array.toList_map ..).trans hvv
  cases mx with
  | true =>
   simp only [cond_true, Go.builtin]
   refine Q1P ?_
   simp only [Builtin.max_, e]
   exact h3
  | false =>
   simp only [cond_false, Go.builtin]
   refine Q1P ?_
   simp only [Builtin.min_, e]
   exact h3
theorem lenOp_sound {P : Program} {c : Ctx Γ K β} (hty : TyOk P K c.X c.ty) {w0 : World} {L0 : Fm} {st : St Γ} {n : Nat} {o : Oper} {cl : Call} (ho : o.op = .call cl) (hc : cl.callee = .builtin .len) {x : Operand} {t : TypeId} (hx : cl.args.toList = [x]) (ht : cl.argTypes.toList = [t]) {kk : Act Γ → Option β} {b : β}
  (h : lenOf c st.loc t (st.ev x) (fun v => kk ⟨v, []⟩) = some b) : Q2h P K w0 L0 st n o (fun kk => lenOf c st.loc t (st.ev x) (fun v => kk ⟨v, []⟩)) := by
 obtain ⟨v, h1, h2⟩ := lenOf_sound (P := P) (ty := o.type) hty h
 refine ⟨⟨v, []⟩, fun kk' => h1 _, Q2l fun R M own a w hsx => ?_⟩
 obtain ⟨r, h3, h4⟩ := h2 w R M own _ _ hsx.hl hsx.locs (hsx.ev x)
 refine ⟨r, ?_, h4⟩
 rw [run_builtin ho hc]
 have e1 : cl.args = #[x] := Array.toList_inj.1 hx
 have e2 : cl.argTypes = #[t] := Array.toList_inj.1 ht
 rw [e1, e2]
 have e3 : (#[x].map a.eval : Array Value) = #[a.eval x] := by simp
 rw [e3]
 exact Q1P h3
end Go.Ev
/- A slice of an element's own is taken out of its row, and put back. -/
namespace Go.Ev
variable {Γ : TypeId → Type} {K : Cod Γ} {β : Type}
theorem Q0a {α : Type} {c : Bool} {x : Option α} {b : α} (h : (bif c then x else none) = some b) : c = true ∧ x = some b := by
 cases c with
 | true => exact ⟨rfl, h⟩
 | false => cases h
theorem cells_at {inner : Bool} {e : TypeId} {xs : List (Γ e)} {i off : Nat} {x : Γ e} {t : T Γ} (hx : xs[i]? = some x) (ht : (K.enc e inner x)[off]? = some t) : (cells K inner e xs)[i * K.sz e + off]? = some t := by
 have hi : i < xs.length := by
  rcases Z34 i xs.length with h' | h'
  ·exact h'
  ·simp [Z21 h'] at hx
 have ho : off < (K.enc e inner x).length := by
  rcases Z34 off (K.enc e inner x).length with h' | h'
  ·exact h'
  ·simp [Z21 h'] at ht
 have hl1 : (cells K inner e (xs.take i)).length = i * K.sz e := by rw [Q2s, Z8, Z68 (Nat.le_of_lt hi)]
 rw [cells_mid inner e xs i x hx, Z28, Z76 (by omega), hl1, Z101, Z94 ho]
 exact ht
theorem OwnL.one_out {w : World} {A : Nat → Prop} {ts : List (T Γ)} {vs : List Value} {L : List Nat} (h : OwnL K w A ts vs L) {j : Nat} {t : T Γ} (ht : ts[j]? = some t) :
  ∃ v L1 Lm L2, vs[j]? = some v ∧ L = L1 ++ (Lm ++ L2) ∧ OwnL K w A (ts.take j) (vs.take j) L1 ∧ Own K w A t v Lm ∧ OwnL K w A (ts.drop (j + 1)) (vs.drop (j + 1)) L2 := by
 obtain ⟨L1, Lb, e1, h1, h2⟩ := h.take j
 have hj : j < ts.length := by
  rcases Z34 j ts.length with h' | h'
  ·exact h'
  ·simp [Z21 h'] at ht
 have et : ts.drop j = t :: ts.drop (j + 1) := by
  rw [Z27 hj]
  congr 1
  simpa [Z3 hj] using ht
 rw [et] at h2
 have hjv : j < vs.length := by rw [← h.length]; exact hj
 rw [Z27 hjv] at h2
 cases h2 with
 | cons k1 k2 => exact ⟨vs[j], L1, _, _, Z3 hjv, e1, h1, k1, k2⟩
theorem OwnL.one_in {w : World} {A : Nat → Prop} {ts : List (T Γ)} {vs : List Value} {j : Nat} {t : T Γ} {v : Value} {L1 Lm L2 : List Nat} (hj : j < ts.length) (hv : vs[j]? = some v) (h1 : OwnL K w A (ts.take j) (vs.take j) L1) (h : Own K w A t v Lm) (h2 : OwnL K w A (ts.drop (j + 1)) (vs.drop (j + 1)) L2) :
  OwnL K w A (splice j [t] ts) vs (L1 ++ (Lm ++ L2)) := by
 have hjv : j < vs.length := by
  rcases Z34 j vs.length with h' | h'
  ·exact h'
  ·simp [Z21 h'] at hv
 have e : vs = vs.take j ++ (v :: vs.drop (j + 1)) := by
  have : v = vs[j] := by simpa [Z3 hjv] using hv.symm
  rw [this, ← Z27 hjv, Z82]
 have h3 := h1.append (.cons h h2)
 rw [← e] at h3
 unfold splice
 rw [Z28]
 exact h3
theorem take_locs {w : World} {R : Rh Γ} {M : Nat → List Nat} {own : Nat → Option Nat} {mine : Nat → Prop} (hL : Locs K w R M own mine) {r g : Nat} {e : TypeId} {xs : List (Γ e)} (hr : R.loc r = .row g true e xs) (hNr : R.N r)
  {i : Nat} {x : Γ e} (hx : xs[i]? = some x) {off : Nat} {e' : TypeId} {ys : List (Γ e')} (ht : (K.enc e true x)[off]? = some (.sl true true e' ys)) {n : Nat} (hn : ¬ R.N n) :
  ∃ u M' own' b nn cap, Qh R { R with N := fun q => R.N q ∨ q = n, loc := Go.Ev.upd (Go.Ev.upd R.loc r (.hrow g e xs x i off n)) n (.row 0 true e' ys), hdr := Go.Ev.upd R.hdr n u } ∧
   Locs K w { R with N := fun q => R.N q ∨ q = n, loc := Go.Ev.upd (Go.Ev.upd R.loc r (.hrow g e xs x i off n)) n (.row 0 true e' ys), hdr := Go.Ev.upd R.hdr n u } M' own' mine ∧
   R.hdr r = .slice (some ⟨b, 0, none⟩) nn cap ∧ w.cell? ⟨b, i * K.sz e + off, none⟩ = some u ∧ isSlice u := by
 have hne : r ≠ n := fun h => hn (h ▸ hNr)
 have hi : i < xs.length := by
  rcases Z34 i xs.length with h' | h'
  ·exact h'
  ·simp [Z21 h'] at hx
 have hoff : off < K.sz e := by
  rcases Z34 off (K.sz e) with h' | h'
  ·exact h'
  ·rw [Z21 (by rw [K.len]; exact h')] at ht; cases ht
 have hlr := hL.lr r
 rw [hr] at hlr
 generalize hh : R.hdr r = h at hlr
 generalize hm : M r = m at hlr
 have hlr : Own K w R.A (.sl true true e xs) h m := hlr
 cases hlr with
 | @sl _ _ _ _ vs L0 hrow hcl =>
  obtain ⟨u, L1, Lm, L2, hu, eL, k1, k2, k3⟩ := hcl.one_out (cells_at hx ht)
  subst eL
  have hjb : i * K.sz e + off < xs.length * K.sz e := by
   have : (i + 1) * K.sz e ≤ xs.length * K.sz e := Z64 _ hi
   rw [Z70] at this
   omega
  have hnd := hL.nodup r (by rw [hr]; trivial)
  rw [hm] at hnd
  have hown := hL.own r (by rw [hr]; trivial)
  rw [hm] at hown
  have hlt := hL.lt r (by rw [hr]; trivial)
  rw [hm] at hlt
  let R' : Rh Γ := { R with N := fun q => R.N q ∨ q = n, loc := Go.Ev.upd (Go.Ev.upd R.loc r (.hrow g e xs x i off n)) n (.row 0 true e' ys), hdr := Go.Ev.upd R.hdr n u }
  have hrr : R'.loc r = .hrow g e xs x i off n := by simp only [R', upd_ne _ _ hne, upd_same]
  have hrn : R'.loc n = .row 0 true e' ys := by simp only [R', upd_same]
  have hro : ∀ j, j ≠ r → j ≠ n → R'.loc j = R.loc j := fun j h1 h2 => by simp only [R', upd_ne _ _ h2, upd_ne _ _ h1]
  have hhr : ∀ j, j ≠ n → R'.hdr j = R.hdr j := fun j h2 => by simp only [R', upd_ne _ _ h2]
  have hhn : R'.hdr n = u := by simp only [R', upd_same]
  have hc : Qh R R' := by
   refine ⟨fun _ h => h, fun _ h => .inl h, fun q hq g1 i1 e1 xs1 h => ?_, fun q hq g1 i1 e1 xs1 h => ?_, fun q hq t1 cs1 h => ?_⟩ <;> have hqn : q ≠ n := fun h => hn (h ▸ hq)
   ·refine ⟨hhr q hqn, ?_⟩
    by_cases hqr : q = r
    ·subst hqr
     rw [hrr] at h
     rw [hr]
     injection h with a1 a2 a3 a4
     subst a1; subst a3
     cases a4
     exact ⟨true, xs, rfl, rfl⟩
    ·rw [hro q hqr hqn] at h; exact ⟨i1, xs1, h, rfl⟩
   ·refine ⟨hhr q hqn, ?_⟩
    by_cases hqr : q = r
    ·subst hqr; rw [hrr] at h; cases h
    ·rw [hro q hqr hqn] at h; exact .inr ⟨i1, e1, xs1, h⟩
   ·refine ⟨hhr q hqn, ?_⟩
    by_cases hqr : q = r
    ·subst hqr; rw [hrr] at h; cases h
    ·rw [hro q hqr hqn] at h; exact ⟨t1, cs1, h⟩
  have hsl : isSlice u := by
   cases k2 with
   | sl hr2 _ => obtain ⟨a, c, rfl, _⟩ := Q30 hr2; exact ⟨_, _, _, rfl⟩
  have hsub : ∀ b, b ∈ blk h ++ (L1 ++ L2) → b ∈ blk h ++ (L1 ++ (Lm ++ L2)) := by
   intro b hb
   simp only [Z26] at hb ⊢
   rcases hb with hb | hb | hb
   ·exact .inl hb
   ·exact .inr (.inl hb)
   ·exact .inr (.inr (.inr hb))
  have hsubm : ∀ b, b ∈ Lm → b ∈ blk h ++ (L1 ++ (Lm ++ L2)) := fun b hb => by simp [hb]
  have hdis : ∀ b, b ∈ blk h ++ (L1 ++ L2) → b ∉ Lm := by
   intro b hb hbm
   simp only [Z33, Z26] at hnd hb
   obtain ⟨_, ⟨_, ⟨_, _, q2⟩, q1⟩, q0⟩ := hnd
   rcases hb with hb | hb | hb
   ·exact q0 b hb b (.inr (.inl hbm)) rfl
   ·exact q1 b hb b (.inl hbm) rfl
   ·exact q2 b hbm b hb rfl
  rcases hrow.2 with ⟨rfl, hn0⟩ | ⟨gb, cap, cur, rfl, _⟩
  ·omega
  ·have hcell : w.cell? ⟨gb, i * K.sz e + off, none⟩ = some u := by rw [hrow.cellAt _ hjb]; exact hu
   refine ⟨u, Go.Ev.upd (Go.Ev.upd M r (blk (.slice (some ⟨gb, 0, none⟩) xs.length cap) ++ (L1 ++ L2))) n Lm, fun b => if b ∈ Lm then some n else own b, gb, _, cap, hc, ?_, rfl, hcell, hsl⟩
   show Locs K w R' _ _ mine
   refine hL.after hc (fun _ _ => rfl) (fun j g1 i1 e1 xs1 h => ?_) (fun j hj => ?_) (Z7 _) hL.alt
   ·by_cases hjn : j = n
    ·subst hjn; rw [hrn] at h; cases h
    ·by_cases hjr : j = r
     ·subst hjr; rw [hrr] at h; cases h
     ·rw [hro j hjr hjn] at h; exact ⟨h, hhr j hjn⟩
   ·by_cases hjn : j = n
    ·subst hjn
     refine .inr ⟨?_, ?_, fun b hb => ?_⟩
     ·rw [hrn, hhn, upd_same]
      exact k2
     ·rw [upd_same]
      simp only [Z33] at hnd
      exact hnd.2.1.2.1.1
     ·rw [upd_same] at hb
      have h1 := hlt b (hsubm b hb)
      exact ⟨by simp [hb], h1.1, h1.2.1, h1.2.2⟩
    ·by_cases hjr : j = r
     ·subst hjr
      refine .inr ⟨?_, ?_, fun b hb => ?_⟩
      ·rw [hrr, hhr _ hjn, upd_ne _ _ hjn, upd_same, hh]
       refine ⟨vs, L1, L2, hrow, hx, hoff, k1, k3, rfl, .inr rfl, fun g1 i1 e1 ys1 _ => ?_⟩
       rw [hhn]; exact hu
      ·rw [upd_ne _ _ hjn, upd_same]
       refine hnd.sublist ?_
       exact List.Sublist.append (List.Sublist.refl _) (List.Sublist.append (List.Sublist.refl _) (List.sublist_append_right _ _))
      ·rw [upd_ne _ _ hjn, upd_same] at hb
       have h1 := hlt b (hsub b hb)
       exact ⟨by simp only [if_neg (hdis b hb)]; exact hown b (hsub b hb), h1.1, h1.2.1, h1.2.2⟩
     ·rw [hro j hjr hjn] at hj
      refine .inl ⟨hro j hjr hjn, hhr j hjn, by rw [upd_ne _ _ hjn, upd_ne _ _ hjr], fun b hb => ⟨rfl, ?_, (hL.lt j hj b hb).2.2⟩⟩
      have hbj := hL.own j hj b hb
      have : b ∉ Lm := fun hbm => by
       have := hown b (hsubm b hbm)
       rw [hbj] at this
       exact hjr (Option.some.inj this)
      simp only [if_neg this]
      exact hbj
theorem close_locs {w : World} {R : Rh Γ} {M : Nat → List Nat} {own : Nat → Option Nat} {mine : Nat → Prop} (hL : Locs K w R M own mine) {r : Nat} {u : List (Nat × LV Γ)} (h : Q2t K R.loc r = some u) :
  ∃ M' own', Qh R { R with loc := Qp R.loc u } ∧ Locs K w { R with loc := Qp R.loc u } M' own' mine := by
 unfold Q2t at h
 split at h
 ·rename_i g e xs x i off n hr
  split at h
  ·rename_i gn e' ys hnn
   ·replace h := Q0a h
    obtain ⟨hb, h⟩ := h
    simp only [Z4, Bool.not_eq_true'] at hb
    have hoff := Q2i hb.1
    have hne : n ≠ r := fun h => by rw [h] at hb; simp at hb
    split at h
    ·rename_i y hy
     cases h
     have hey : K.enc e true y = splice off [.sl true true e' ys] (K.enc e true x) := K.ok e true _ _ hy
     have hlr := hL.lr r
     rw [hr] at hlr
     obtain ⟨vs, L1, L2, a1, hx, a3, a4, a5, a6, a7, a8⟩ := hlr
     have a2 : i < xs.length := by
      rcases Z34 i xs.length with h' | h'
      ·exact h'
      ·simp [Z21 h'] at hx
     have hln := hL.lr n
     rw [hnn] at hln
     have hln : Own K w R.A (.sl true true e' ys) (R.hdr n) (M n) := hln
     have hv := a8 _ _ _ _ (by rw [hnn])
     have hcl : (cells K true e xs).length = xs.length * K.sz e := Q2s true e xs
     have hjb : i * K.sz e + off < xs.length * K.sz e := by
      have : (i + 1) * K.sz e ≤ xs.length * K.sz e := Z64 _ a2
      rw [Z70] at this
      omega
     have hin := OwnL.one_in (by rw [hcl]; exact hjb) hv a4 hln a5
     rw [← cells_set xs i x y hx off [.sl true true e' ys] hey (by simp; omega)] at hin
     have hown : Own K w R.A (.sl true true e (xs.set i y)) (R.hdr r) (blk (R.hdr r) ++ (L1 ++ (M n ++ L2))) := .sl (by rw [Z92]; exact a1) hin
     have hlrow : (R.loc r).live := by rw [hr]; trivial
     have hlnl : (R.loc n).live := by rw [hnn]; trivial
     have o1 := hL.own r hlrow
     have o2 := hL.own n hlnl
     have d1 := hL.nodup r hlrow
     have d2 := hL.nodup n hlnl
     have t1 := hL.lt r hlrow
     have t2 := hL.lt n hlnl
     rw [a6] at o1 d1 t1
     have hmem : ∀ b, b ∈ blk (R.hdr r) ++ (L1 ++ (M n ++ L2)) → b ∈ blk (R.hdr r) ++ (L1 ++ L2) ∨ b ∈ M n := by
      intro b hb
      simp only [Z26] at hb ⊢
      rcases hb with hb | hb | hb | hb
      ·exact .inl (.inl hb)
      ·exact .inl (.inr (.inl hb))
      ·exact .inr hb
      ·exact .inl (.inr (.inr hb))
     let R' : Rh Γ := { R with loc := Qp R.loc [(r, .row g true e (xs.set i y)), (n, .dead)] }
     have hloc : R'.loc = Go.Ev.upd (Go.Ev.upd R.loc n .dead) r (.row g true e (xs.set i y)) := by
      simp only [R', Q1L, updLoc_nil]
     have hrr : R'.loc r = .row g true e (xs.set i y) := by rw [hloc, upd_same]
     have hrn : R'.loc n = .dead := by rw [hloc, upd_ne _ _ hne, upd_same]
     have hro : ∀ j, j ≠ r → j ≠ n → R'.loc j = R.loc j := fun j h1 h2 => by rw [hloc, upd_ne _ _ h1, upd_ne _ _ h2]
     have hc : Qh R R' := by
      refine ⟨fun _ h => h, fun _ h => h, fun q hq g1 i1 e1 xs1 h => ⟨rfl, ?_⟩, fun q hq g1 i1 e1 xs1 h => ⟨rfl, ?_⟩, fun q hq t1 cs1 h => ⟨rfl, ?_⟩⟩
      ·by_cases hqr : q = r
       ·subst hqr
        rw [hrr] at h
        rw [hr]
        injection h with b1 b2 b3 b4
        subst b1; subst b3
        cases b4
        exact ⟨true, xs, rfl, by rw [Z92]⟩
       ·by_cases hqn : q = n
        ·subst hqn; rw [hrn] at h; cases h
        ·rw [hro q hqr hqn] at h; exact ⟨i1, xs1, h, rfl⟩
      ·by_cases hqr : q = r
       ·subst hqr; rw [hrr] at h; cases h
       ·by_cases hqn : q = n
        ·subst hqn; rw [hrn] at h; cases h
        ·rw [hro q hqr hqn] at h; exact .inr ⟨i1, e1, xs1, h⟩
      ·by_cases hqr : q = r
       ·subst hqr; rw [hrr] at h; cases h
       ·by_cases hqn : q = n
        ·subst hqn; rw [hrn] at h; cases h
        ·rw [hro q hqr hqn] at h; exact ⟨t1, cs1, h⟩
     refine ⟨Go.Ev.upd M r (blk (R.hdr r) ++ (L1 ++ (M n ++ L2))), fun b => if b ∈ M n then some r else own b, hc, ?_⟩
     show Locs K w R' _ _ mine
     refine hL.after hc (fun _ _ => rfl) (fun j g1 i1 e1 xs1 h => ?_) (fun j hj => ?_) (Z7 _) hL.alt
     ·by_cases hjr : j = r
      ·subst hjr; rw [hrr] at h; cases h
      ·by_cases hjn : j = n
       ·subst hjn; rw [hrn] at h; cases h
       ·rw [hro j hjr hjn] at h; exact ⟨h, rfl⟩
     ·by_cases hjn : j = n
      ·subst hjn; rw [hrn] at hj; exact hj.elim
      ·by_cases hjr : j = r
       ·subst hjr
        refine .inr ⟨?_, ?_, fun b hb => ?_⟩
        ·rw [hrr, upd_same]; exact hown
        ·rw [upd_same]
         have hdd : ∀ b ∈ blk (R.hdr j) ++ (L1 ++ L2), b ∉ M n := fun b hb hbn => by
          have h1 := o1 b hb
          rw [o2 b hbn] at h1
          exact hne (Option.some.inj h1)
         simp only [Z33, Z26] at d1 ⊢
         obtain ⟨p1, ⟨p2, p3, p4⟩, p5⟩ := d1
         refine ⟨p1, ⟨p2, ⟨d2, p3, fun b hb c hc hbc => ?_⟩, fun b hb c hc hbc => ?_⟩, fun b hb c hc hbc => ?_⟩
         ·subst hbc; exact hdd b (by simp [hc]) hb
         ·subst hbc
          rcases hc with hc | hc
          ·exact hdd b (by simp [hb]) hc
          ·exact p4 b hb b hc rfl
         ·subst hbc
          rcases hc with hc | hc | hc
          ·exact p5 b hb b (.inl hc) rfl
          ·exact hdd b (by simp [hb]) hc
          ·exact p5 b hb b (.inr hc) rfl
        ·rw [upd_same] at hb
         rcases hmem b hb with hb | hb
         ·have q := t1 b hb
          refine ⟨?_, q.1, q.2.1, q.2.2⟩
          split
          ·rfl
          ·exact o1 b hb
         ·have q := t2 b hb
          exact ⟨by simp only [if_pos hb], q.1, q.2.1, q.2.2⟩
       ·rw [hro j hjr hjn] at hj
        refine .inl ⟨hro j hjr hjn, rfl, by rw [upd_ne _ _ hjr], fun b hb => ⟨rfl, ?_, (hL.lt j hj b hb).2.2⟩⟩
        have hbj := hL.own j hj b hb
        have : b ∉ M n := fun hbn => by
         have := o2 b hbn
         rw [hbj] at this
         exact hjn (Option.some.inj this)
        simp only [if_neg this]
        exact hbj
    ·cases h
  ·cases h
 ·cases h
end Go.Ev
/- A literal of slices. -/
namespace Go.Ev
variable {Γ : TypeId → Type} {K : Cod Γ} {β : Type}
theorem VRL.len {w : World} {R : Rh Γ} : ∀ {xs : List (AV Γ)} {vs : List Value}, VRL K w R xs vs → xs.length = vs.length
 | _, _, .nil => rfl
 | _, _, .cons _ _ hs => by simp [hs.len]
theorem els_flat {w : World} {R : Rh Γ} {st : St Γ} {a : Go.Act} (hev : ∀ x, VR K w R (st.ev x) (a.eval x)) : ∀ (ps : List (Nat × Operand)), (∀ p ∈ ps, (st.ev p.2).cellsOk = true) → VRL K w R (ps.map fun p => (st.ev p.2).cellsOf).flatten (ps.map fun p => (a.eval p.2).cells.toList).flatten
 | [], _ => .nil
 | p :: ps, h => by
  rw [Z16, Z44, Z16, Z44]
  exact (Q33 (hev p.2) (h p (by simp))).append (els_flat hev ps fun q hq => h q (by simp [hq]))
theorem Q3h {α : Type _} (n : Nat) : ∀ (l : List (List α)), (∀ x ∈ l, x.length = n) → l.flatten.length = l.length * n
 | [], _ => by simp
 | x :: l, h => by rw [Z44, Z10, h x (by simp), Q3h n l fun y hy => h y (by simp [hy]), Z2, Z66]; omega
theorem buildSlice_lit {P : Program} {c : Ctx Γ K β} (hty : TyOk P K c.X c.ty) {w0 : World} {L0 : Fm} {st : St Γ} {n : Nat} {o : Oper} {t e : TypeId} {len : Nat} {parts : Array (Nat × Operand)} (ho : o.op = .buildSlice t len parts)
  (hE : c.elem t = some e) (hlen : parts.toList.length = len) (hidx : parts.toList.map (·.1) = List.range len) (hsz : len * K.sz e ≤ 10000)
  (hall : ∀ p ∈ parts.toList, (st.ev p.2).cellsOk = true ∧ (st.ev p.2).cellsOf.length = K.sz e) :
  Q1V P K w0 L0 st n o ⟨.lit e len ((parts.toList.map fun p => (st.ev p.2).cellsOf).flatten), []⟩ := by
 intro N a w hS hf hd Kn Q hK
 obtain ⟨R, M, own, hN, hx⟩ := hS
 obtain ⟨hu, ie, hi, hisz, z, hz, hzs, _⟩ := Q2w hty hE
 let vs := parts.toList.map fun p => a.eval p.2
 have hsize : ∀ v ∈ vs, v.cells.size = K.sz e := by
  intro v hv
  obtain ⟨p, hp, rfl⟩ := Z18.1 hv
  obtain ⟨h1, h2⟩ := hall p hp
  rw [← Z36, ← (Q33 (hx.ev p.2) h1).len, h2]
 have hvl : vs.length = len := by simp [vs, hlen]
 obtain ⟨cells', e1, e2⟩ := fill_row (size := K.sz e) vs 0 [] ((Array.range (len * K.sz e)).map (z.cells[· % z.cells.size]!)).toList ((Array.range (len * K.sz e)).map (z.cells[· % z.cells.size]!)) hsize (by simp) (by simp) (by simp [hvl])
 have hvl2 : parts.toList.map (fun p => (p.1, a.eval p.2)) = (vs.zipIdx 0).map fun p => (p.2, p.1) := by
  have := zip_range (parts.toList.map fun p => (p.1, a.eval p.2)) 0 (by simp only [Z23, Z1, hlen, Z31, List.map_id']; exact hidx)
  simpa [vs, Z23, Function.comp_def] using this
 have e3 : cells'.toList = (parts.toList.map fun p => (a.eval p.2).cells.toList).flatten := by rw [e2, Z40]; simp [vs, Z23, Function.comp_def]
 have hcs : cells'.size = len * K.sz e := by
  rw [← Z36, e3, Q3h (K.sz e), Z1, hlen]
  intro x hx'
  obtain ⟨p, hp, rfl⟩ := Z18.1 hx'
  exact hsize _ (Z18.2 ⟨p, hp, rfl⟩)
 have hrun : (Instr.buildSlice t len (parts.map fun (i, x) => (i, a.eval x))).run P w = .ok (.slice (some ⟨w.heap.size, 0, none⟩) len len) (w.alloc (.cells cells' e)) := by
  have hlim : ¬ (len * K.sz e > 2 ^ 24) := by omega
  have hfill : Instr.fill (fun i => some (i * K.sz e, K.sz e)) ((Array.range (len * K.sz e)).map (z.cells[· % z.cells.size]!)) (parts.map fun (i, x) => (i, a.eval x)).toList = some cells' := by
   rw [Array.toList_map]
   have : (fun (p : Nat × Operand) => match p with | (i, x) => (i, a.eval x)) = fun p => (p.1, a.eval p.2) := rfl
   rw [this, hvl2]; exact e1
  simp only [Instr.buildSlice, Z17, run_underlying hu, Z24, Q32 hi, hisz, hlim, if_false]
  by_cases h0 : len * K.sz e = 0
  ·rw [h0] at hfill
   simp only [h0, if_true]
   have hfill' : Instr.fill (fun i => some (i * K.sz e, K.sz e)) ((Array.range 0).map ((#[] : Array Value)[· % (#[] : Array Value).size]!)) (parts.map fun (i, x) => (i, a.eval x)).toList = some cells' := by
    rw [← hfill]; congr 1
    apply Array.ext (by simp)
    intro i h; simp at h
   rw [Z17, Z46, Z24]
   simp only [hfill']
   rfl
  ·simp only [h0, if_false, zeroValue, typeInfo, Z17, run_program, Z24, hi, hz, Z46, hfill]
   rfl
 have hs : Same R.A w (w.alloc (.cells cells' e)) := hx.locs.sameA (fun b hb => Q2C w _ hb)
 let R2 : Rh Γ := { R with A := fun b => R.A b ∨ b = w.heap.size }
 have hc : Qh R R2 := ⟨fun _ h => .inl h, fun _ h => h, fun r _ g i e xs h => ⟨rfl, i, xs, h, rfl⟩, fun r _ g i e xs h => ⟨rfl, .inr ⟨i, e, xs, h⟩⟩, fun r _ t cs h => ⟨rfl, t, cs, h⟩⟩
 have hL : Locs K (w.alloc (.cells cells' e)) R2 M own (mine w0 L0) := hx.locs.after hc hs (fun j g i e xs h => ⟨h, rfl⟩) (fun j hj => .inl ⟨rfl, rfl, rfl, fun b hb => ⟨Q2C w _ (hx.locs.lt j hj b hb).1, hx.locs.own j hj b hb, fun hA => hA.elim (hx.locs.lt j hj b hb).2.2 fun h => by have := (hx.locs.lt j hj b hb).1; omega⟩⟩) (by simp) (fun b hb => by
  rcases hb with hb | rfl
  ·have := hx.locs.alt b hb; simp; omega
  ·simp)
 have hv : VR K (w.alloc (.cells cells' e)) R2 (.lit e len ((parts.toList.map fun p => (st.ev p.2).cellsOf).flatten)) (.slice (some ⟨w.heap.size, 0, none⟩) len len) := by
  refine .lit (c := cells') (.inr rfl) (alloc_new w _) ?_ ?_
  ·rw [Q3h (K.sz e), Z1, hlen]
   intro x hx'
   obtain ⟨p, hp, rfl⟩ := Z18.1 hx'
   exact (hall p hp).2
  ·rw [e3]
   exact (els_flat (fun x => hx.ev x) _ fun p hp => (hall p hp).1).move hc hs
 unfold Oper.wp
 have hr : (execOp a.eval o).run P w = .ok (.value (.slice (some ⟨w.heap.size, 0, none⟩) len len)) (w.alloc (.cells cells' e)) := by
  unfold execOp
  simp only [ho]
  exact Q1P hrun
 rw [hr, Oper.upon_value]
 exact hK _ _ (SR.mono (N := R2.N) ⟨R2, M, own, rfl, hx.upd hc hs ⟨.lit e len ((parts.toList.map fun p => (st.ev p.2).cellsOf).flatten), []⟩ hx.hl hL (hx.fr.alloc _) (fun b hb => hb.imp id fun h => by rw [h]; exact (.inl hx.fr.size)) o.dst hd hv⟩ fun r h => .inl (by rw [← hN]; exact h))
end Go.Ev
/- Each operation's step: all of them. -/
namespace Go.Ev
variable {Γ : TypeId → Type} {K : Cod Γ} {β : Type}
theorem stepOK_effA {P : Program} {w0 : World} {L0 : Fm} {st : St Γ} {n : Nat} {o : Oper} {act : Act Γ}
  (h : ∀ (R : Rh Γ) (M : Nat → List Nat) (own : Nat → Option Nat) (a : Go.Act) (w : World), SRx K w0 L0 R M own st a w → (∀ r, n ≤ r → r < n + 64 → ¬ R.N r) →
   ∃ (x : Value) (w' : World) (R' : Rh Γ) (M' : Nat → List Nat) (own' : Nat → Option Nat), (execOp a.eval o).run P w = .ok (.value x) w' ∧
    Qh R R' ∧ Same R.A w w' ∧ R'.loc = Qp st.loc act.upd ∧ (∀ r, R'.N r → R.N r ∨ (n ≤ r ∧ r < n + 64)) ∧ Locs K w' R' M' own' (mine w0 L0) ∧ Fr w0 L0 w' ∧ VR K w' R' act.val x ∧ ∀ b, R'.A b → R.A b ∨ mine w0 L0 b) :
  Q1V P K w0 L0 st n o act := by
 intro N a w hS hf hd Kn Q hK
 obtain ⟨R, M, own, hN, hx⟩ := hS
 obtain ⟨x, w', R', M', own', hr, hc, hs, hl, hn, hL, hF, hv, hA⟩ := h R M own a w hx (by rw [hN]; exact hf)
 have key : Kn (a.put o.dst x) w' := hK _ _ (SR.mono (N := R'.N) ⟨R', M', own', rfl, hx.upd hc hs act hl hL hF hA o.dst hd hv⟩ fun r h => (hn r h).imp (fun h => by rw [hN] at h; exact h) id)
 unfold Oper.wp
 rw [hr, Oper.upon_value]; exact key
theorem roL_ints {w : World} {A : Nat → Prop} {k : IntKind} : ∀ ns : List Int, RoL K w A (ns.map (T.int k)) (ns.map (Value.int k))
 | [] => .nil
 | n :: ns => .cons (.int k n) (roL_ints ns)
theorem convBytes_sound {P : Program} {c : Ctx Γ K β} (hty : TyOk P K c.X c.ty) {w0 : World} {L0 : Fm} {st : St Γ} {n : Nat} {o : Oper} {src dst : TypeId} {x : Operand} (ho : o.op = .convert src dst x) {e : TypeId} {s b : Nat} {z : List Zc} (hd : c.ty dst = some ⟨.sl e, s, b, z⟩)
  (hb : (c.isU8s dst && (c.ty src).isSome) = true) {sv : ByteArray} (hx : st.ev x = .str sv) {xs : List (Γ e)} (hxs : xs.map (K.enc e false) = sv.data.toList.map fun b => [T.int .u8 (b.toNat : Int)]) :
  Q1V P K w0 L0 st n o ⟨.vs false e xs, []⟩ := by
 rw [Z4] at hb
 obtain ⟨el, h1, h2⟩ := isU8s_ty hty hb.1
 have h3 : P.underlying dst = some (.slice e) := (hty _ _ hd).kind.1
 obtain rfl : el = e := by rw [h3] at h1; cases h1; rfl
 obtain ⟨i, hi⟩ := Option.isSome_iff_exists.1 hb.2
 obtain ⟨d, h4⟩ : ∃ d, P.underlying src = some d := by
  have := (hty _ _ hi).kind
  cases hk : i.kind with
  | one => rw [hk] at this; obtain ⟨d, h1, _⟩ := this; exact ⟨d, h1⟩
  | bool => rw [hk] at this; exact ⟨_, this⟩
  | int k => rw [hk] at this; exact ⟨_, this⟩
  | str => rw [hk] at this; exact ⟨_, this⟩
  | sl e => rw [hk] at this; exact ⟨_, this.1⟩
  | agg fs => rw [hk] at this; obtain ⟨f, h, _⟩ := this; exact ⟨_, h⟩
 refine stepOK_effA fun R M own a w hsx hf => ?_
 have hv := hsx.ev x
 rw [hx] at hv
 have e0 : a.eval x = .string sv := by generalize a.eval x = v at hv; cases hv; rfl
 have hrun := Go.Lib.run_convert_string_bytes (P := P) w src dst el sv h4 h3 h2
 have hcells : cells K false el xs = (sv.data.toList.map fun b => (b.toNat : Int)).map (T.int .u8) := by
  rw [cells, hxs]
  generalize sv.data.toList = l
  induction l with
  | nil => rfl
  | cons b l ih => rw [Z16, Z44, ih]; rfl
 have hlen : xs.length = sv.size := by
  have := congrArg List.length hxs
  rw [Z1, Z1] at this
  rw [this]; exact Z36
 have hold : ∀ b, b < w.heap.size → (Go.Lib.bytesWorld w el sv).heap[b]? = w.heap[b]? := fun b hb => Go.Lib.bytesWorld_at_old w el sv b hb
 have hsz := Go.Lib.bytesWorld_size w el sv
 have hS : Same R.A w (Go.Lib.bytesWorld w el sv) := fun b hb => hold b (hsx.locs.alt b hb)
 have hfr : Fr w0 L0 (Go.Lib.bytesWorld w el sv) := by
  have hz : ((Go.Lib.bytesCells w el sv).size + 1 = 0) = False := by simp
  refine hsx.fr.step ?_ ?_ ?_ ?_ (by omega) (fun b hb _ => hold b hb)
  all_goals (unfold Go.Lib.bytesWorld World.freeze; rw [if_neg (by decide)])
  ·rfl
  ·rfl
  ·rfl
  ·show w.drawn ≤ w.drawn + 1; omega
 refine ⟨.slice (some ⟨w.heap.size, 0, none⟩) sv.size (grownCap w sv.size 0 el), Go.Lib.bytesWorld w el sv, { R with A := fun b => R.A b ∨ b = w.heap.size }, M, own, ?_, ⟨fun b h => .inl h, fun _ h => h, fun r _ g i e xs h => ⟨rfl, i, xs, h, rfl⟩, fun r _ g i e xs h => ⟨rfl, .inr ⟨i, e, xs, h⟩⟩, fun r _ t cs h => ⟨rfl, t, cs, h⟩⟩, hS, hsx.hl, fun r h => .inl h, ?_, hfr, ?_, ?_⟩
 ·unfold execOp
  simp only [ho]
  refine Q1P ?_
  rw [e0]; exact hrun
 ·refine hsx.locs.after ⟨fun b h => .inl h, fun _ h => h, fun r _ g i e xs h => ⟨rfl, i, xs, h, rfl⟩, fun r _ g i e xs h => ⟨rfl, .inr ⟨i, e, xs, h⟩⟩, fun r _ t cs h => ⟨rfl, t, cs, h⟩⟩ hS (fun j g i e xs h => ⟨h, rfl⟩) (fun j hj => .inl ⟨rfl, rfl, rfl, fun b hb => ?_⟩) (by omega) (fun b hb => ?_)
  ·have h5 := hsx.locs.lt j hj b hb
   exact ⟨hold b h5.1, hsx.locs.own j hj b hb, fun h => h.elim h5.2.2 fun h => by omega⟩
  ·rcases hb with hb | hb
   ·have := hsx.locs.alt b hb; omega
   ·omega
 ·refine .vs (.sl (by rw [hlen]) (grownCap_ge w sv.size 0 el) (by rw [hcells]; exact roL_ints _) fun j u hu => ⟨_, rfl, .inr rfl, ?_⟩)
  rw [Z11, Z11] at hu
  cases hj : sv.data.toList[j]? with
  | none => rw [hj] at hu; cases hu
  | some b =>
   rw [hj] at hu
   cases hu
   have hjl : j < sv.size := by
    have := (Z107.1 hj).1
    rwa [Z36] at this
   rw [add_lit, Z25, Go.Lib.bytesWorld_cell w el sv j hjl, Z9, hj]; rfl
 ·intro b hb
  exact hb.imp id fun h => by subst h; exact Q3g hsx.fr
theorem takeAt_sound {P : Program} {c : Ctx Γ K β} (hty : TyOk P K c.X c.ty) {w0 : World} {L0 : Fm} {st : St Γ} {n : Nat} {o : Oper} {t : TypeId} {A : Operand} {kk : Act Γ → Option β} {b : β} (h : Q2I c st.loc n t (st.ev A) kk = some b) (ho : o.op = .load t A) :
  Q2h P K w0 L0 st n o (Q2I c st.loc n t (st.ev A)) := by
 unfold Q2I at h
 cases hA : st.ev A with
 | er r g i off =>
  rw [hA] at h
  simp only at h
  cases hr : st.loc r with
  | row g' inner e xs =>
   rw [hr] at h
   cases inner with
   | false => cases h
   | true =>
    simp only at h
    replace h := Q0a h
    obtain ⟨hb, h⟩ := h
    have hb0 := hb
    simp only [Z4] at hb
    obtain ⟨hg, hone⟩ := hb
    have hg := beq_eq hg
    subst hg
    cases hx : xs[i]? with
    | none => rw [hx] at h; cases h
    | some x =>
     rw [hx] at h
     simp only [Z0] at h
     split at h
     ·rename_i e' ys ht
      refine ⟨_, fun kk' => by simp only [Q2I, hr, hb0, cond_true, hx, Z0, ht]; rfl, Q2N fun R M own a w hsx hf => ?_⟩
      have hap := hsx.ev A
      rw [hA] at hap
      obtain ⟨ad, hap', hN, hp⟩ := VR.er_inv hap
      have hR : R.loc r = .row g true e xs := by rw [hsx.hl]; exact hr
      obtain ⟨_, b3, n3, c3, e7, rfl⟩ := hp true e xs (by rw [hR])
      obtain ⟨u, M', own', b2, nn, cap, hc, hL', e1, hcell, hsl⟩ := take_locs hsx.locs hR hN hx ht (hf n (Z7 _) (by omega))
      rw [e1] at e7
      obtain rfl : b2 = b3 := by injection e7 with e7; injection e7 with e7; injection e7
      have hload : (Instr.loadAt t (a.eval A)).run P w = .ok u w := by
       rw [hap']
       exact (Q3e hty (vs := [u]) (fun j v hj => by
        cases j with
        | zero => simp at hj; subst hj; rw [add_zero']; exact hcell
        | succ j => simp at hj) t).2 hone _ _ rfl
      refine ⟨u, w, _, M', own', .inl (by unfold execOp; simp only [ho]; exact Q1P hload), hc, fun _ _ => rfl, ?_, fun q hq => ?_, hL', hsx.fr, ?_, rfl⟩
      ·simp only [Q1L, updLoc_nil, hsx.hl]
      ·rcases hq with hq | hq
       ·exact .inl hq
       ·exact .inr (by omega)
      ·refine .sl (.inr rfl) hsl (fun i1 e1 xs1 _ => by simp) (fun i1 e1 xs1 h => by simp at h)
     ·cases h
  | _ => rw [hr] at h; cases h
 | _ => rw [hA] at h; cases h
theorem Q2U {P : Program} {w0 : World} {L0 : Fm} {st : St Γ} {n : Nat} {o : Oper} {F G : (Act Γ → Option β) → Option β} (h : Q2h P K w0 L0 st n o G) (e : ∀ kk, F kk = G kk) : Q2h P K w0 L0 st n o F := by
 obtain ⟨act, h1, h2⟩ := h
 exact ⟨act, fun kk => (e kk).trans (h1 kk), h2⟩
theorem Q4u {P : Program} {c : Ctx Γ K β} (hty : TyOk P K c.X c.ty) (hG : ∀ f cal, c.G f = some cal → Con P K f cal) {w0 : World} {L0 : Fm} {st : St Γ} {n : Nat} {o : Oper} {kk : Act Γ → Option β} {b : β}
  (h : Q8 c st n o kk = some b) : Q2h P K w0 L0 st n o (Q8 c st n o) := by
 cases ho : o.op with
 | move x =>
  simp only [Q8, ho] at h
  exact Q2U (move_sound (.inl ho) h) fun kk => by simp only [Q8, ho]
 | assign x =>
  simp only [Q8, ho] at h
  exact Q2U (move_sound (.inr ho) h) fun kk => by simp only [Q8, ho]
 | pick x y z =>
  simp only [Q8, ho] at h
  cases hx : st.ev x with
  | bool t =>
   rw [hx] at h
   exact Q2U (pick_sound ho hx h) fun kk => by simp only [Q8, ho, hx]
  | _ => rw [hx] at h; cases h
 | alloc t =>
  simp only [Q8, ho] at h
  cases hi : c.ty t with
  | none => rw [hi] at h; cases h
  | some i =>
   rw [hi] at h
   replace h := Q0a h; obtain ⟨hb, h⟩ := h
   exact ⟨_, fun kk => by simp only [Q8, ho, hi, hb]; rfl, alloc_sound hty ho hi (by have := Q2i hb; omega)⟩
 | box t x =>
  simp only [Q8, ho] at h
  exact Q2U (box_sound ho h) fun kk => by simp only [Q8, ho]
 | build t parts =>
  simp only [Q8, ho] at h
  cases hi : c.ty t with
  | none => rw [hi] at h; cases h
  | some i =>
   obtain ⟨kind, s, by_, zero⟩ := i
   rw [hi] at h
   cases kind with
   | agg fs =>
    replace h := Q0a h; obtain ⟨hb, h⟩ := h
    cases hp : partsOf st parts.toList with
    | none => rw [hp] at h; cases h
    | some qs =>
     rw [hp] at h; simp only at h
     cases hf : Q3a fs qs (Q2f c n zero).1 with
     | none => rw [hf] at h; cases h
     | some cs => exact ⟨_, fun kk => by simp only [Q8, ho, hi, hb, cond_true, hp, hf], build_sound hty ho hi (Q2i hb) hp hf⟩
   | _ => cases h
 | buildSlice t len parts =>
  simp only [Q8, ho] at h
  cases hE : c.elem t with
  | none => rw [hE] at h; cases h
  | some e =>
   rw [hE] at h
   replace h := Q0a h; obtain ⟨hb, h⟩ := h
   cases hlits : (c.lits && (parts.toList.map fun p => (st.ev p.2).cellsOf).any hasSl) with
   | true =>
    rw [hlits] at h; simp only [cond_true] at h
    replace h := Q0a h; obtain ⟨hall, h⟩ := h
    have hb' := hb
    simp only [Z4] at hb'
    refine ⟨_, fun kk => by simp only [Q8, ho, hE, hb, cond_true, hlits, hall], buildSlice_lit hty ho hE (beq_eq hb'.1.1) (by simpa using hb'.1.2) (Q2i hb'.2) (fun p hp => ?_)⟩
    have := Z49.1 hall p hp
    rw [Z4] at this
    exact ⟨this.1, beq_eq this.2⟩
   | false =>
   rw [hlits] at h; simp only [cond_false] at h
   generalize hin : (bif (parts.toList.map fun p => (st.ev p.2).cellsOf).any hasVs then false else bif (parts.toList.map fun p => (st.ev p.2).cellsOf).any hasSl then true else c.inner e) = inner at h
   cases ht : toTs st.loc inner (parts.toList.map fun p => (st.ev p.2).cellsOf) with
   | none => rw [ht] at h; cases h
   | some tm =>
    obtain ⟨tss, m⟩ := tm
    rw [ht] at h; simp only at h
    obtain ⟨xs, hd, hx⟩ := decs_sound h
    have hb' := hb
    simp only [Z4] at hb'
    exact ⟨_, fun kk => by simp only [Q8, ho, hE, hb, cond_true, hlits, cond_false, hin, ht, hd], buildSlice_sound hty ho hE (beq_eq hb'.1.1) (by simpa using hb'.1.2) (Q2i hb'.2) ht hx⟩
 | load t a =>
  simp only [Q8, ho] at h
  cases htk : takes c st.loc t (st.ev a) with
  | true =>
   rw [htk] at h
   obtain ⟨act, h1, h2⟩ := takeAt_sound (P := P) hty h ho
   exact ⟨act, fun kk => by simp only [Q8, ho, htk, cond_true]; exact h1 kk, h2⟩
  | false =>
  rw [htk] at h
  simp only [cond_false] at h
  obtain ⟨v, h1, h2⟩ := loadAt_sound (P := P) hty h
  refine ⟨⟨v, []⟩, fun kk => by simp only [Q8, ho, htk, cond_false]; exact h1 _, Q2l fun R M own a' w hx => ?_⟩
  obtain ⟨r, h3, h4⟩ := h2 w R M own _ _ hx.hl hx.locs (hx.ev a)
  exact ⟨r, by unfold execOp; simp only [ho]; exact Q1P h3, h4⟩
 | store t a x =>
  simp only [Q8, ho] at h
  cases hA : st.ev a with
  | ptr b' off =>
   rw [hA] at h
   simp only [storeAt] at h
   cases hl : st.loc b' with
   | box bt cs =>
    rw [hl] at h
    exact Q2U (storeBox_sound hty ho hA hl h) fun kk => by simp only [Q8, ho, hA, storeAt, hl]
   | _ => rw [hl] at h; cases h
  | er r g i off =>
   rw [hA] at h
   simp only [storeAt] at h
   cases hl : st.loc r with
   | row g' inner e xs =>
    rw [hl] at h; simp only at h
    replace h := Q0a h; obtain ⟨hg, h⟩ := h
    have hg' := beq_eq hg
    subst hg'
    cases hx : xs[i]? with
    | none => rw [hx] at h; cases h
    | some y =>
     rw [hx] at h; simp only [Z0] at h
     cases ht : toT st.loc inner (st.ev x).cellsOf with
     | none => rw [ht] at h; cases h
     | some tm =>
      obtain ⟨ts, m⟩ := tm
      rw [ht] at h; simp only at h
      replace h := Q0a h; obtain ⟨hb, h⟩ := h
      cases hd : K.dec e inner (splice off ts (K.enc e inner y)) with
      | none => rw [hd] at h; cases h
      | some z =>
       have hb' := hb
       simp only [Z4] at hb'
       exact ⟨_, fun kk => by simp only [Q8, ho, hA, storeAt, hl, hg, cond_true, hx, Z0, ht, hb, hd], storeEl_sound hty ho hA hl hx ht hb'.1.1.1 hb'.1.1.2 hb'.1.2 (by simpa using hb'.2) hd⟩
   | _ => rw [hl] at h; cases h
  | _ => rw [hA] at h; simp only [storeAt] at h; cases h
 | nilCheck x =>
  simp only [Q8, ho] at h
  cases hx : st.ev x with
  | ptr b' off => exact ⟨⟨st.ev x, []⟩, fun kk => by simp only [Q8, ho, hx], Q4q ho (.inl ⟨_, _, hx⟩)⟩
  | vp cs => exact ⟨⟨st.ev x, []⟩, fun kk => by simp only [Q8, ho, hx], Q4q ho (.inr (.inl ⟨_, hx⟩))⟩
  | er r g i off => exact ⟨⟨st.ev x, []⟩, fun kk => by simp only [Q8, ho, hx], Q4q ho (.inr (.inr ⟨_, _, _, _, hx⟩))⟩
  | _ => rw [hx] at h; cases h
 | binOp op t x y t' =>
  simp only [Q8, ho] at h
  obtain ⟨v, h1, h2⟩ := binopT_sound (P := P) (K := K) hty h
  refine ⟨⟨v, []⟩, fun kk => by simp only [Q8, ho]; exact h1 _, Q2l fun R M own a w hx => ?_⟩
  obtain ⟨r, h3, h4⟩ := h2 w R x y _ _ (hx.ev x) (hx.ev y)
  exact ⟨r, by unfold execOp; simp only [ho]; exact Q1P h3, h4⟩
 | unOp op t x =>
  simp only [Q8, ho] at h
  obtain ⟨v, h1, h2⟩ := unop_sound (P := P) (K := K) h
  refine ⟨⟨v, []⟩, fun kk => by simp only [Q8, ho]; exact h1 _, Q2l fun R M own a w hx => ?_⟩
  obtain ⟨r, h3, h4⟩ := h2 w R _ (hx.ev x)
  exact ⟨r, by unfold execOp; simp only [ho]; exact Q1P h3, h4⟩
 | convert src dst x =>
  simp only [Q8, ho] at h
  cases hd : c.ty dst with
  | none => rw [hd] at h; cases h
  | some i =>
   obtain ⟨kind, s, by_, zero⟩ := i
   rw [hd] at h
   cases kind with
   | int k =>
    cases hx : st.ev x with
    | int k' m =>
     rw [hx] at h
     replace h := Q0a h; obtain ⟨hb, h⟩ := h
     exact ⟨_, fun kk => by simp only [Q8, ho, hd, hx, hb, cond_true], convInt_sound hty ho hd hb hx⟩
    | _ => rw [hx] at h; cases h
   | str =>
    replace h := Q0a h; obtain ⟨hb, h⟩ := h
    exact Q2U (convStr_sound hty ho hd hb h) fun kk => by simp only [Q8, ho, hd, hb, cond_true]
   | sl e =>
    cases hx : st.ev x with
    | str sv =>
     rw [hx] at h
     replace h := Q0a h; obtain ⟨hb, h⟩ := h
     cases hN : c.X.ofNum e with
     | none => rw [hN] at h; cases h
     | some kh =>
      obtain ⟨k, hh⟩ := kh
      rw [hN] at h
      cases k with
      | u8 =>
       exact ⟨_, fun kk => by simp only [Q8, ho, hd, hx, hb, cond_true]; rw [hN], convBytes_sound hty ho hd hb hx (by
        rw [Z23]
        exact Z45 fun b _ => c.X.ofNumOk e _ _ hN false _)⟩
      | _ => cases h
    | _ => rw [hx] at h; cases h
   | _ => cases h
 | makeFunc fn first captured =>
  cases fn with
  | func f =>
   simp only [Q8, ho] at h
   replace h := Q0a h; obtain ⟨hb, h⟩ := h
   have hb' := hb
   rw [Z4] at hb'
   exact ⟨_, fun kk => by simp only [Q8, ho]; rw [hb]; rfl, makeFunc_sound ho hb'.1 hb'.2⟩
  | _ => simp only [Q8, ho] at h; cases h
 | makeSlice t l cp =>
  simp only [Q8, ho] at h
  cases hE : c.elem t with
  | none => rw [hE] at h; cases h
  | some e =>
   rw [hE] at h
   cases hl : st.ev l with
   | int k len =>
    rw [hl] at h
    cases hc : st.ev cp with
    | int k' len' =>
     rw [hc] at h; simp only at h
     replace h := Q0a h; obtain ⟨hs, h⟩ := h
     replace h := Q0a h; obtain ⟨hb, h⟩ := h
     have hb' := hb
     rw [Z4] at hb'
     exact ⟨_, fun kk => by simp only [Q8, ho, hE, hl, hc, hs, hb, cond_true], makeSlice_sound hty ho hE hl hs (of_decide_eq_true hb'.1) hb'.2⟩
    | _ => rw [hc] at h; cases h
   | _ => rw [hl] at h; cases h
 | slice t x lo hi mx =>
  cases mx with
  | some m => simp only [Q8, ho] at h; cases h
  | none =>
   simp only [Q8, ho] at h
   obtain ⟨v, h1, h2⟩ := sliceOf_sound (P := P) hty h
   refine ⟨⟨v, []⟩, fun kk => by simp only [Q8, ho]; exact h1 _, Q2l fun R M own a w hx => ?_⟩
   have ov : ∀ q : Option Operand, VRO K w R (q.map st.ev) (q.map a.eval) := fun q => by
    cases q with
    | none => exact .none
    | some q => exact .some (hx.ev q)
   obtain ⟨r, h3, h4⟩ := h2 w R M own _ _ _ _ hx.hl hx.locs (hx.ev x) (ov lo) (ov hi)
   exact ⟨r, by unfold execOp; simp only [ho]; exact Q1P h3, h4⟩
 | fieldAddr t x f =>
  simp only [Q8, ho] at h
  cases hf : c.field t f with
  | none => rw [hf] at h; cases h
  | some osa =>
   obtain ⟨off, sz, ag⟩ := osa
   rw [hf] at h; simp only at h
   cases hx : st.ev x with
   | ptr b' q => exact ⟨_, fun kk => by simp only [Q8, ho, hf, hx], Q4p hty ho hf (.inl ⟨_, _, hx, rfl⟩)⟩
   | er r g i q => exact ⟨_, fun kk => by simp only [Q8, ho, hf, hx], Q4p hty ho hf (.inr (.inl ⟨_, _, _, _, hx, rfl⟩))⟩
   | vp cs => exact ⟨_, fun kk => by simp only [Q8, ho, hf, hx], Q4p hty ho hf (.inr (.inr ⟨_, hx, rfl⟩))⟩
   | _ => rw [hx] at h; cases h
 | field t x f =>
  simp only [Q8, ho] at h
  cases hf : c.field t f with
  | none => rw [hf] at h; cases h
  | some osa =>
   obtain ⟨off, sz, ag⟩ := osa
   rw [hf] at h
   cases hx : st.ev x with
   | agg cs =>
    rw [hx] at h
    cases ag with
    | true =>
     replace h := Q0a h; obtain ⟨hb, h⟩ := h
     exact ⟨_, fun kk => by simp only [Q8, ho, hf, hx, hb, cond_true], field_sound hty ho hf hx (.inl ⟨rfl, rfl⟩)⟩
    | false =>
     simp only at h
     cases hc : cs[off]? with
     | none => rw [hc] at h; cases h
     | some v => exact ⟨_, fun kk => by simp only [Q8, ho, hf, hx, hc], field_sound hty ho hf hx (.inr ⟨rfl, hc⟩)⟩
   | _ => rw [hx] at h; cases ag <;> cases h
 | indexAddr t x i =>
  have plain : ∀ kk : Act Γ → Option β, indexAt c st.loc t (st.ev x) (st.ev i) (fun v => kk ⟨v, []⟩) = some b → Q2h P K w0 L0 st n o (fun kk => indexAt c st.loc t (st.ev x) (st.ev i) fun v => kk ⟨v, []⟩) := by
   intro kk h
   obtain ⟨v, h1, h2⟩ := indexAt_sound (P := P) hty h
   refine ⟨⟨v, []⟩, fun kk => h1 _, Q2l fun R M own a w hx => ?_⟩
   obtain ⟨r, h3, h4⟩ := h2 w R M own _ _ _ hx.hl hx.locs (hx.ev x) (hx.ev i)
   exact ⟨r, by unfold execOp; simp only [ho]; exact Q1P h3, h4⟩
  cases hx : st.ev x with
  | sl r g =>
   simp only [Q8, ho, hx] at h
   cases hcl : Q2t K st.loc r with
   | none =>
    rw [hcl] at h
    rw [hx] at plain
    exact Q2U (plain _ h) fun kk => by simp only [Q8, ho, hx, hcl]
   | some u =>
    rw [hcl] at h
    obtain ⟨v, h1, h2⟩ := indexAt_sound (P := P) hty h
    refine ⟨⟨v, u⟩, fun kk => by simp only [Q8, ho, hx, hcl]; exact h1 _, Q2N fun R M own a w hsx hf => ?_⟩
    obtain ⟨M', own', hc, hL'⟩ := close_locs hsx.locs (by rw [hsx.hl]; exact hcl)
    have hxv := (hsx.ev x).move hc (fun _ _ => rfl)
    have hiv := (hsx.ev i).move hc (fun _ _ => rfl)
    rw [hx] at hxv
    obtain ⟨res, h3, h4⟩ := h2 w { R with loc := Qp R.loc u } M' own' _ _ _ (by rw [hsx.hl]) hL' hxv hiv
    exact ⟨res, w, { R with loc := Qp R.loc u }, M', own', .inl (by unfold execOp; simp only [ho]; exact Q1P h3), hc, fun _ _ => rfl, by rw [← hsx.hl], fun q hq => .inl hq, hL', hsx.fr, h4, rfl⟩
  | _ =>
   simp only [Q8, ho, hx] at h
   rw [hx] at plain
   exact Q2U (plain _ h) fun kk => by simp only [Q8, ho, hx]
 | index t x i =>
  simp only [Q8, ho] at h
  cases hx : st.ev x with
  | str s =>
   rw [hx] at h
   cases hi : st.ev i with
   | int k j =>
    rw [hi] at h; simp only at h
    replace h := Q0a h; obtain ⟨hb, h⟩ := h
    cases ha : at? s.data.toList j with
    | none => rw [ha] at h; cases h
    | some y => exact ⟨_, fun kk => by simp only [Q8, ho, hx, hi, hb, cond_true, ha, Z0], index_sound hty ho hb hx hi ha⟩
   | _ => rw [hi] at h; cases h
  | _ => rw [hx] at h; cases h
 | extract x i =>
  simp only [Q8, ho] at h
  cases hx : st.ev x with
  | tup vs =>
   rw [hx] at h; simp only at h
   cases hv : vs[i]? with
   | none => rw [hv] at h; cases h
   | some v => exact ⟨_, fun kk => by simp only [Q8, ho, hx, hv], extract_sound ho hx hv⟩
  | _ => rw [hx] at h; cases h
 | call cl =>
  simp only [Q8, ho] at h
  have fin : ∀ {G : (Act Γ → Option β) → Option β}, Q2h P K w0 L0 st n o G → (∀ kk, Q2u c st n cl kk = G kk) → Q2h P K w0 L0 st n o (Q8 c st n o) := fun hC e => Q2U hC fun kk => by simp only [Q8, ho]; exact e kk
  cases hc : cl.callee with
  | builtin bu =>
   simp only [Q2u, hc] at h
   cases bu with
   | len =>
    simp only at h
    split at h
    ·rename_i x t hx ht
     exact fin (lenOp_sound hty ho hc hx ht h) fun kk => by simp only [Q2u, hc, hx, ht]
    ·cases h
   | append =>
    simp only at h
    split at h
    ·rename_i s x t t' hx ht
     replace h := Q0a h; obtain ⟨hb, h⟩ := h
     have hb' := beq_eq hb
     subst hb'
     exact fin (append_sound hty ho hc hx ht h) fun kk => by simp only [Q2u, hc, hx, ht, hb, cond_true]
    ·cases h
   | max =>
    simp only at h
    split at h
    ·rename_i x r hx
     exact fin (Q4K (mx := true) ho hc hx h) fun kk => by simp only [Q2u, hc, hx]
    ·cases h
   | min =>
    simp only at h
    split at h
    ·rename_i x r hx
     exact fin (Q4K (mx := false) ho hc hx h) fun kk => by simp only [Q2u, hc, hx]
    ·cases h
   | _ => cases h
  | invoke r nm => simp only [Q2u, hc] at h; cases h
  | value f =>
   simp only [Q2u, hc] at h
   cases hf : st.ev f with
   | fn g caps =>
    rw [hf] at h; simp only at h
    replace h := Q0a h; obtain ⟨hb, h⟩ := h
    exact fin (call_sound hG ho hc hf (Q2i hb) h) fun kk => by simp only [Q2u, hc, hf, hb, cond_true]
   | _ => rw [hf] at h; cases h
 | _ => simp only [Q8, ho] at h; cases h
end Go.Ev
/- Regions that don't draw. -/
namespace Go.Ev
variable {Γ : TypeId → Type} {K : Cod Γ} {β : Type}
def SRB (K : Cod Γ) (w0 : World) (L0 : Fm) (B : Nat) (st : St Γ) (a : Go.Act) (w : World) : Prop := SR K w0 L0 (fun r => r < B) st a w
theorem SRB.mono {w0 : World} {L0 : Fm} {B B' : Nat} {st : St Γ} {a : Go.Act} {w : World} (h : SRB K w0 L0 B st a w) (hB : B ≤ B') : SRB K w0 L0 B' st a w :=
 SR.mono h fun _ hr => Z54 hr hB
theorem SRB.nx {w0 : World} {L0 : Fm} {B m : Nat} {st : St Γ} {a : Go.Act} {w : World} (h : SRB K w0 L0 B st a w) : SRB K w0 L0 B { st with nx := m } a w := by
 obtain ⟨R, M, own, hN, h⟩ := h
 exact ⟨R, M, own, hN, h.hl, h.size, h.slots, h.locs, h.defers, h.fr, h.up, h.dn, h.par⟩
theorem Q1V.one {P : Program} {w0 : World} {L0 : Fm} {st : St Γ} {n : Nat} {o : Oper} {act : Act Γ} (h : Q1V P K w0 L0 st n o act) {a : Go.Act} {w : World} (hS : SRB K w0 L0 n st a w) (hd : ∀ d, o.dst = some d → L0.par d = none) {Kn : Go.Act → World → Prop} {Q : Exit → Go.Act → World → Prop}
  (hK : ∀ a' w', SRB K w0 L0 (n + 64) (st.put o.dst act) a' w' → Kn a' w') : o.wp P a w Kn Q :=
 h _ a w hS (fun r h1 _ h3 => by omega) hd Kn Q fun a' w' h => hK a' w' (SR.mono h fun r hr => by rcases hr with h | h <;> omega)
theorem SRB.skip {w0 : World} {L0 : Fm} {B : Nat} {st : St Γ} {a : Go.Act} {w : World} (h : SRB K w0 L0 B st a w) (dst : Option Nat) (hd : ∀ d, dst = some d → L0.par d = none) : SRB K w0 L0 B (st.put dst ⟨.tup [], []⟩) (a.put dst undef) w := by
 obtain ⟨R, M, own, hN, h⟩ := h
 exact ⟨R, M, own, hN, h.upd (Qh.refl R) (fun _ _ => rfl) ⟨.tup [], []⟩ h.hl h.locs h.fr (fun _ h => .inl h) dst hd (.tup (xs := []) (vs := []) .nil)⟩
theorem Q35 {w0 : World} {L0 : Fm} {B : Nat → Prop} {st : St Γ} {a : Go.Act} {w : World} (h : SR K w0 L0 B st a w) {all : Array Oper} {j d : Nat} (hd : dstOf all j = some d) :
  (st.get d = .tup [] → yielded all a.tmps j = none) ∧ ∀ b, st.get d = .bool b → yielded all a.tmps j = some b := by
 obtain ⟨R, M, own, hN, h⟩ := h
 have hv := h.slots d
 unfold yielded
 have e : (all[j]?).bind (·.dst) = some d := hd
 rw [e]
 simp only [Z0]
 constructor
 ·intro hg
  rw [hg] at hv
  have hlt : d < st.slots.length := by
   rcases Z34 d st.slots.length with h' | h'
   ·exact h'
   ·simp [St.get, Z9, Z21 h'] at hg
  have hlt' : d < a.tmps.size := by rw [← h.size]; exact hlt
  rw [Z51, Z79 hlt'] at hv
  rw [Z79 hlt']
  simp only [Z41] at hv
  generalize a.tmps[d] = v at hv
  cases hv with
  | tup hm => cases hm; rfl
 ·intro b hg
  rw [hg] at hv
  have hlt : d < st.slots.length := by
   rcases Z34 d st.slots.length with h' | h'
   ·exact h'
   ·simp [St.get, Z9, Z21 h'] at hg
  have hlt' : d < a.tmps.size := by rw [← h.size]; exact hlt
  rw [Z51, Z79 hlt'] at hv
  rw [Z79 hlt']
  simp only [Z41] at hv
  generalize a.tmps[d] = v at hv
  cases hv
  rfl
theorem set_get {st : St Γ} {d : Nat} {x : AV Γ} (h : st.get d = x) (hx : x ≠ .undef) : { st with slots := st.slots.set d x } = st := by
 have : st.slots.set d x = st.slots := by
  apply Z95
  intro i
  rw [List.getElem?_set]
  split
  ·rename_i e
   subst e
   split
   ·rename_i hl
    rw [Z3 hl]
    rw [← h]
    simp [St.get, Z9, Z3 hl]
   ·rename_i hl
    simp [St.get, Z9, Z21 (Nat.le_of_not_lt hl)] at h
    exact absurd h.symm hx
  ·rfl
 rw [this]
theorem Q45 {P : Program} {c : Ctx Γ K β} (hty : TyOk P K c.X c.ty) (hG : ∀ f cal, c.G f = some cal → Con P K f cal) {w0 : World} {L0 : Fm} (hpar : ∀ i v, L0.par i = some v → memN i c.keep = true) {all : Array Oper} : ∀ (os : List Oper) (i : Nat) (st : St Γ) {kk : St Γ → Option β} {b : β}, region c all i os st kk = some b → (∀ j, os[j]? = all[i + j]?) →
  ∃ st' : St Γ, st'.nx = st.nx ∧ (∀ kk' : St Γ → Option β, region c all i os st kk' = kk' st') ∧
   ∀ (a : Go.Act) (w : World), SRB K w0 L0 (st.nx + 64 * i) st a w → ∀ (Q : Exit → Go.Act → World → Prop), (∀ a' w', SRB K w0 L0 (st.nx + 64 * (i + os.length)) st' a' w' → Q .normal a' w') → wpOps P all Q (List.range' i os.length) a w
 | [], i, st, kk, b, h, _ => ⟨st, rfl, fun _ => rfl, fun a w hS Q hQ => hQ a w hS⟩
 | o :: os, i, st, kk, b, h, hall => by
  have ho : all[i]? = some o := by have := hall 0; simpa using this.symm
  have htl : ∀ j, os[j]? = all[(i + 1) + j]? := fun j => by
   have := hall (j + 1)
   rw [Z108] at this
   rw [this]; congr 1; omega
  cases hkeep : dstIn o.dst c.keep with
  | true => simp only [region, hkeep, cond_true] at h; cases h
  | false =>
  have hd : ∀ d, o.dst = some d → L0.par d = none := by
   intro d he
   rw [he] at hkeep
   cases hp : L0.par d with
   | none => rfl
   | some v => simp only [dstIn, hpar d v hp] at hkeep; cases hkeep
  -- an operation that is carried out
  have yes : ∀ (g : Prop), (∀ (a : Go.Act) (w : World), SRB K w0 L0 (st.nx + 64 * i) st a w → Region.wanted o (yielded all a.tmps) = true) → Q8 c st (st.nx + 64 * i) o (fun a => region c all (i + 1) os (st.put o.dst a) kk) = some b →
    ∃ st' : St Γ, st'.nx = st.nx ∧ (∀ kk' : St Γ → Option β, Q8 c st (st.nx + 64 * i) o (fun a => region c all (i + 1) os (st.put o.dst a) kk') = kk' st') ∧
     ∀ (a : Go.Act) (w : World), SRB K w0 L0 (st.nx + 64 * i) st a w → ∀ (Q : Exit → Go.Act → World → Prop), (∀ a' w', SRB K w0 L0 (st.nx + 64 * (i + (o :: os).length)) st' a' w' → Q .normal a' w') → wpOps P all Q (List.range' i (o :: os).length) a w := by
   intro _ hw h
   obtain ⟨act, h1, h2⟩ := Q4u (P := P) (w0 := w0) (L0 := L0) hty hG h
   rw [h1] at h
   obtain ⟨st', e1, e2, e3⟩ := Q45 hty hG hpar os (i + 1) (st.put o.dst act) h htl
   refine ⟨st', e1, fun kk' => by rw [h1, e2], fun a w hS Q hQ => ?_⟩
   rw [Z2, List.range'_succ]
   simp only [wpOps, ho, hw a w hS, if_true]
   refine .inl (h2.one hS hd fun a' w' hS' => e3 a' w' (hS'.mono (by show _ ≤ st.nx + 64 * (i + 1); omega)) Q fun a2 w2 hS2 => hQ a2 w2 (hS2.mono (by show st.nx + _ ≤ _; rw [Z2]; omega)))
  have no : (∀ (a : Go.Act) (w : World), SRB K w0 L0 (st.nx + 64 * i) st a w → Region.wanted o (yielded all a.tmps) = false) → region c all (i + 1) os (st.put o.dst ⟨.tup [], []⟩) kk = some b →
    ∃ st' : St Γ, st'.nx = st.nx ∧ (∀ kk' : St Γ → Option β, region c all (i + 1) os (st.put o.dst ⟨.tup [], []⟩) kk' = kk' st') ∧
     ∀ (a : Go.Act) (w : World), SRB K w0 L0 (st.nx + 64 * i) st a w → ∀ (Q : Exit → Go.Act → World → Prop), (∀ a' w', SRB K w0 L0 (st.nx + 64 * (i + (o :: os).length)) st' a' w' → Q .normal a' w') → wpOps P all Q (List.range' i (o :: os).length) a w := by
   intro hw h
   obtain ⟨st', e1, e2, e3⟩ := Q45 hty hG hpar os (i + 1) (st.put o.dst ⟨.tup [], []⟩) h htl
   refine ⟨st', e1, e2, fun a w hS Q hQ => ?_⟩
   rw [Z2, List.range'_succ]
   simp only [wpOps, ho, hw a w hS, Z77, if_false]
   exact e3 _ w ((hS.skip o.dst hd).mono (by show _ ≤ st.nx + 64 * (i + 1); omega)) Q fun a2 w2 hS2 => hQ a2 w2 (hS2.mono (by show st.nx + _ ≤ _; rw [Z2]; omega))
  cases hgd : o.guard with
  | none =>
   simp only [region, hkeep, cond_false, hgd] at h
   obtain ⟨st', e1, e2, e3⟩ := yes True (fun a w _ => by simp [Region.wanted, hgd]) h
   exact ⟨st', e1, fun kk' => by simp only [region, hkeep, cond_false, hgd]; exact e2 kk', e3⟩
  | some jw =>
   obtain ⟨j, want⟩ := jw
   simp only [region, hkeep, cond_false, hgd] at h
   cases hd : dstOf all j with
   | none => rw [hd] at h; cases h
   | some d =>
    rw [hd] at h; simp only at h
    cases hv : st.get d with
    | tup vs =>
     cases vs with
     | cons v vs => rw [hv] at h; cases h
     | nil =>
      rw [hv] at h; simp only at h
      obtain ⟨st', e1, e2, e3⟩ := no (fun a w hS => by simp [Region.wanted, hgd, (Q35 hS hd).1 hv]) h
      exact ⟨st', e1, fun kk' => by simp only [region, hkeep, cond_false, hgd, hd, hv]; exact e2 kk', e3⟩
    | bool t =>
     rw [hv] at h; simp only at h
     cases t with
     | true =>
      have es : ({ st with slots := st.slots.set d (.bool true) } : St Γ) = st := set_get hv (by simp)
      simp only [cond_true, es] at h
      cases want with
      | true =>
       simp only [cond_true] at h
       obtain ⟨st', e1, e2, e3⟩ := yes True (fun a w hS => by simp [Region.wanted, hgd, (Q35 hS hd).2 _ hv]) h
       exact ⟨st', e1, fun kk' => by simp only [region, hkeep, cond_false, hgd, hd, hv, cond_true, es]; exact e2 kk', e3⟩
      | false =>
       simp only [cond_false] at h
       obtain ⟨st', e1, e2, e3⟩ := no (fun a w hS => by simp [Region.wanted, hgd, (Q35 hS hd).2 _ hv]) h
       exact ⟨st', e1, fun kk' => by simp only [region, hkeep, cond_false, hgd, hd, hv, cond_true, cond_false, es]; exact e2 kk', e3⟩
     | false =>
      have es : ({ st with slots := st.slots.set d (.bool false) } : St Γ) = st := set_get hv (by simp)
      simp only [cond_false, es] at h
      cases want with
      | true =>
       simp only [cond_true] at h
       obtain ⟨st', e1, e2, e3⟩ := no (fun a w hS => by simp [Region.wanted, hgd, (Q35 hS hd).2 _ hv]) h
       exact ⟨st', e1, fun kk' => by simp only [region, hkeep, cond_false, hgd, hd, hv, cond_true, cond_false, es]; exact e2 kk', e3⟩
      | false =>
       simp only [cond_false] at h
       obtain ⟨st', e1, e2, e3⟩ := yes True (fun a w hS => by simp [Region.wanted, hgd, (Q35 hS hd).2 _ hv]) h
       exact ⟨st', e1, fun kk' => by simp only [region, hkeep, cond_false, hgd, hd, hv, cond_false, es]; exact e2 kk', e3⟩
    | _ => rw [hv] at h; cases h
end Go.Ev
/- Ids are numbered anew at a loop's head. -/
namespace Go.Ev
variable {Γ : TypeId → Type} {K : Cod Γ} {β : Type}
theorem Q4v (loc : Nat → LV Γ) : ∀ (f : Nat) (rs seen : List Nat), seen.Nodup → (reach loc f rs seen).Nodup
 | 0, _, _, h => h
 | _ + 1, [], _, h => h
 | f + 1, r :: rs, seen, h => by
  simp only [reach]
  cases hm : memN r seen with
  | true => exact Q4v loc f rs seen h
  | false =>
   refine Q4v loc f _ _ ?_
   rw [Z33]
   refine ⟨h, by simp, fun a ha b hb e => ?_⟩
   rw [Z38] at hb
   subst e; subst hb
   rw [Q2x.2 ha] at hm; cases hm
theorem idx_spec : ∀ {r : Nat} {js : List Nat}, r ∈ js → idx r js < js.length ∧ js[idx r js]? = some r
 | r, [], h => by cases h
 | r, j :: js, h => by
  simp only [idx]
  cases hb : r.beq j with
  | true => rw [beq_eq hb]; simp
  | false =>
   have hne : r ≠ j := fun e => by subst e; simp at hb
   have := idx_spec (List.mem_of_ne_of_mem hne h)
   simp only [cond_false]
   exact ⟨by simp [this.1], by simpa using this.2⟩
theorem idx_at : ∀ {js : List Nat}, js.Nodup → ∀ {i r : Nat}, js[i]? = some r → idx r js = i
 | [], _, i, r, h => by simp at h
 | j :: js, hn, 0, r, h => by simp at h; subst h; simp [idx]
 | j :: js, hn, i + 1, r, h => by
  have h' : js[i]? = some r := by simpa using h
  have hne : r ≠ j := fun e => (Z78.1 hn).1 (e ▸ List.mem_of_getElem? h')
  have hb : r.beq j = false := by
   cases hb : r.beq j with
   | false => rfl
   | true => exact absurd (beq_eq hb) hne
  simp only [idx, hb, cond_false]
  rw [idx_at (Z78.1 hn).2 h']
section
variable {w : World} {R R' : Rh Γ} {seen : List Nat}
structure Ren (R R' : Rh Γ) (seen : List Nat) : Prop where
 A : R'.A = R.A
 N : ∀ i, i < seen.length → R'.N i
 loc : ∀ i r, seen[i]? = some r → R'.loc i = renV R.loc seen (R.loc r) ∧ R'.hdr i = R.hdr r
theorem renV_base {loc : Nat → LV Γ} {lv lv' : LV Γ} (h : (renV loc seen lv).base = lv') : renV loc seen lv = lv' := by
 cases lv <;> exact h
theorem renV_row {loc : Nat → LV Γ} {lv : LV Γ} {g : Nat} {i : Bool} {e : TypeId} {xs : List (Γ e)} (h : renV loc seen lv = .row g i e xs) : ∃ g', lv = .row g' i e xs ∧ g = 0 := by
 cases lv <;> simp only [renV] at h <;> first | cases h | skip
 ·exact ⟨_, rfl, rfl⟩
theorem renV_frow {loc : Nat → LV Γ} {lv : LV Γ} {g : Nat} {i : Bool} {e : TypeId} {xs : List (Γ e)} (h : renV loc seen lv = .frow g i e xs) : ∃ g', lv = .frow g' i e xs ∧ g = 0 := by
 cases lv <;> simp only [renV] at h <;> first | cases h | skip
 ·exact ⟨_, rfl, rfl⟩
theorem renV_box {loc : Nat → LV Γ} {lv : LV Γ} {t : TypeId} {cs : List (AV Γ)} (h : renV loc seen lv = .box t cs) : ∃ cs', lv = .box t cs' ∧ cs = renL loc seen cs' := by
 cases lv <;> simp only [renV] at h <;> first | cases h | skip
 ·exact ⟨_, rfl, rfl⟩
theorem ageOk_row {loc : Nat → LV Γ} {r g g' : Nat} {i : Bool} {e : TypeId} {xs : List (Γ e)} (h : ageOk loc r g = true) (hl : loc r = .row g' i e xs) : g = g' := by
 unfold ageOk at h; rw [hl] at h; exact beq_eq h
theorem ageOk_frow {loc : Nat → LV Γ} {r g g' : Nat} {i : Bool} {e : TypeId} {xs : List (Γ e)} (h : ageOk loc r g = true) (hl : loc r = .frow g' i e xs) : g = g' := by
 unfold ageOk at h; rw [hl] at h; exact beq_eq h
theorem renL_len (loc : Nat → LV Γ) (seen : List Nat) : ∀ cs : List (AV Γ), (renL loc seen cs).length = cs.length
 | [] => rfl
 | _ :: cs => by simp [renL, renL_len loc seen cs]
mutual
theorem VR.ren (hR : Ren R R' seen) {x : AV Γ} {v : Value} : VR K w R x v → VR K w R' (ren R.loc seen x) v
 | .int k n => .int k n
 | .bool b => .bool b
 | .str s => .str s
 | .nil => .nil
 | .pnil => .pnil
 | .unk b => .unk b
 | .vs h => .vs (by rw [hR.A]; exact h)
 | .vp h => .vp (by rw [hR.A]; exact h)
 | .sl (r := r) (g := g) hN hs h1 h2 => by
  simp only [Go.Ev.ren]
  cases hC : (ageOk R.loc r g && memN r seen) with
  | false => exact .undef _
  | true =>
   rw [Z4] at hC
   obtain ⟨hi, hg⟩ := idx_spec (Q2x.1 hC.2)
   obtain ⟨hl, hh⟩ := hR.loc _ _ hg
   refine .sl (hR.N _ hi) hs (fun i e xs h => ?_) (fun i e xs h => ?_)
   ·rw [hl] at h
    obtain ⟨g', h', _⟩ := renV_row (renV_base h)
    rw [hh]
    have := ageOk_row hC.1 h'
    subst this
    exact h1 i e xs (by rw [h'])
   ·rw [hl] at h
    obtain ⟨g', h', _⟩ := renV_frow h
    rw [hh]
    have := ageOk_frow hC.1 h'
    subst this
    exact h2 i e xs h'
 | .sv (r := r) (g := g) hN hc h1 => by
  simp only [Go.Ev.ren]
  cases hC : (ageOk R.loc r g && memN r seen) with
  | false => exact .undef _
  | true =>
   rw [Z4] at hC
   obtain ⟨hi, hg⟩ := idx_spec (Q2x.1 hC.2)
   obtain ⟨hl, hh⟩ := hR.loc _ _ hg
   refine .sv (hR.N _ hi) hc (fun i e xs h => ?_)
   rw [hl] at h
   obtain ⟨g', h', _⟩ := renV_row (renV_base h)
   rw [hh]
   have := ageOk_row hC.1 h'
   subst this
   exact h1 i e xs (by rw [h'])
 | .ptr (b := b) (off := off) hN h1 => by
  simp only [Go.Ev.ren]
  cases hC : memN b seen with
  | false => exact .undef _
  | true =>
   obtain ⟨hi, hg⟩ := idx_spec (Q2x.1 hC)
   obtain ⟨hl, hh⟩ := hR.loc _ _ hg
   refine .ptr (hR.N _ hi) (fun t cs h => ?_)
   rw [hl] at h
   obtain ⟨cs', h', _⟩ := renV_box h
   rw [hh]
   exact h1 t cs' h'
 | .er (r := r) (g := g) hN h1 => by
  simp only [Go.Ev.ren]
  cases hC : (ageOk R.loc r g && memN r seen) with
  | false => exact .undef _
  | true =>
   rw [Z4] at hC
   obtain ⟨hi, hg⟩ := idx_spec (Q2x.1 hC.2)
   obtain ⟨hl, hh⟩ := hR.loc _ _ hg
   refine .er (hR.N _ hi) (fun i e xs h => ?_)
   rw [hl] at h
   obtain ⟨g', h', _⟩ := renV_row (renV_base h)
   rw [hh]
   have := ageOk_row hC.1 h'
   subst this
   exact h1 i e xs (by rw [h'])
 | .fn h => .fn (h.ren hR)
 | .agg h => .agg (h.ren hR)
 | .lit hA hg hk hv => .lit (by rw [hR.A]; exact hA) hg ((renL_len _ _ _).trans hk) (hv.ren hR)
 | .tup h => .tup (h.ren hR)
 | .undef v => .undef v
theorem VRL.ren (hR : Ren R R' seen) {xs : List (AV Γ)} {vs : List Value} : VRL K w R xs vs → VRL K w R' (renL R.loc seen xs) vs
 | .nil => .nil
 | .cons h h1 k => .cons (h.ren hR) h1 (k.ren hR)
theorem VRM.ren (hR : Ren R R' seen) {xs : List (AV Γ)} {vs : List Value} : VRM K w R xs vs → VRM K w R' (renL R.loc seen xs) vs
 | .nil => .nil
 | .cons h k => .cons (h.ren hR) (k.ren hR)
end
theorem LR.ren (hR : Ren R R' seen) {h : Value} {M : List Nat} {lv : LV Γ} (hk : LR K w R h M lv) : LR K w R' h M (renV R.loc seen lv) := by
 cases lv with
 | dead => trivial
 | row g i e xs => rw [renV, LR, hR.A]; exact hk
 | frow g i e xs => rw [renV, LR, hR.A]; exact hk
 | box t cs =>
  obtain ⟨g, c, h1, h2, h3, h4⟩ := hk
  exact ⟨g, c, h1, h2, h3, h4.ren hR⟩
 | hrow g e xs x i off n => trivial
end
theorem renV_live {loc : Nat → LV Γ} {seen : List Nat} {lv : LV Γ} (h : (renV loc seen lv).live) : lv.live := by
 cases lv <;> first | exact h | trivial
theorem norm0_sound {w0 : World} {L0 : Fm} {B : Nat} {st : St Γ} {a : Go.Act} {w : World} (h : SRB K w0 L0 B st a w) (live : List Nat) : SRB K w0 L0 (norm0 live st).nx (norm0 live st) a w := by
 obtain ⟨R, M, own, hN, h⟩ := h
 let seen := reach st.loc 1000 (live.flatMap fun t => idsOf (st.get t)) []
 have hnd : seen.Nodup := Q4v _ _ _ _ Z71
 let R' : Rh Γ := { A := R.A, N := fun r => r < seen.length, loc := (norm0 live st).loc, hdr := fun i => R.hdr (seen.getD i 0) }
 have hloc : ∀ i r, seen[i]? = some r → R'.loc i = renV R.loc seen (R.loc r) ∧ R'.hdr i = R.hdr r := by
  intro i r hi
  refine ⟨?_, by show R.hdr (seen.getD i 0) = _; rw [Z9, hi]; rfl⟩
  show locOf (seen.map fun r => renV st.loc seen (st.loc r)) i = _
  unfold locOf
  rw [Z11, hi, h.hl]
  rfl
 have hdead : ∀ i, seen[i]? = none → R'.loc i = .dead := by
  intro i hi
  show locOf (seen.map fun r => renV st.loc seen (st.loc r)) i = _
  unfold locOf
  rw [Z11, hi]
  rfl
 have hR : Ren R R' seen := ⟨rfl, fun i hi => hi, hloc⟩
 refine ⟨R', fun i => M (seen.getD i 0), fun b => (own b).map fun r => idx r seen, rfl, rfl, ?_, fun t => ?_, ⟨fun i => ?_, fun i hi b hb => ?_, fun i hi => ?_, fun i hi b hb => ?_, h.locs.alt⟩, h.defers, h.fr, h.up, h.dn, h.par⟩
 ·show ((List.range st.slots.length).map _).length = _
  rw [Z1, Z42]; exact h.size
 ·have hv := (h.slots t).ren hR
  show VR K w R' (((List.range st.slots.length).map fun t => bif memN t live then Go.Ev.ren st.loc seen (st.get t) else .undef).getD t .undef) _
  rw [Z9, Z11]
  by_cases ht : t < st.slots.length
  ·rw [List.getElem?_range ht]
   simp only [Z47, Z41]
   cases memN t live with
   | true => rw [← h.hl]; exact hv
   | false => exact .undef _
  ·rw [Z21 (by rw [Z42]; omega)]
   exact .undef _
 ·cases hi : seen[i]? with
  | none => rw [hdead i hi]; trivial
  | some r =>
   obtain ⟨h1, h2⟩ := hloc i r hi
   rw [h1, h2, Z9, hi]
   exact (h.locs.lr r).ren hR
 ·cases hs : seen[i]? with
  | none => rw [hdead i hs] at hi; exact hi.elim
  | some r =>
   rw [(hloc i r hs).1] at hi
   rw [Z9, hs] at hb
   rw [h.locs.own r (renV_live hi) b hb]
   simp [idx_at hnd hs]
 ·cases hs : seen[i]? with
  | none => rw [hdead i hs] at hi; exact hi.elim
  | some r =>
   rw [(hloc i r hs).1] at hi
   rw [Z9, hs]
   exact h.locs.nodup r (renV_live hi)
 ·cases hs : seen[i]? with
  | none => rw [hdead i hs] at hi; exact hi.elim
  | some r =>
   rw [(hloc i r hs).1] at hi
   rw [Z9, hs] at hb
   exact h.locs.lt r (renV_live hi) b hb
theorem Q4w {w0 : World} {L0 : Fm} {B : Nat} {a : Go.Act} {w : World} : ∀ (ids : List Nat) (st : St Γ), SRB K w0 L0 B st a w → SRB K w0 L0 B { st with loc := closeAll K ids st.loc } a w
 | [], st, h => h
 | r :: rs, st, h => by
  simp only [closeAll]
  cases hc : Q2t K st.loc r with
  | none => exact Q4w rs st h
  | some u =>
   refine Q4w rs { st with loc := Qp st.loc u } ?_
   obtain ⟨R, M, own, hN, hx⟩ := h
   obtain ⟨M', own', hcc, hL'⟩ := close_locs hx.locs (by rw [hx.hl]; exact hc)
   have := hx.upd hcc (fun _ _ => rfl) ⟨.undef, u⟩ (by rw [← hx.hl]) hL' hx.fr (fun b hb => .inl hb) none (fun _ h => by cases h) (.undef default)
   exact ⟨{ R with loc := Qp R.loc u }, M', own', hN, by simpa [St.put, Go.Act.put, Q2T] using this⟩
theorem norm_sound {w0 : World} {L0 : Fm} {B : Nat} {st : St Γ} {a : Go.Act} {w : World} (h : SRB K w0 L0 B st a w) (live : List Nat) : SRB K w0 L0 (norm K live st).nx (norm K live st) a w :=
 norm0_sound (Q4w _ st h) live
end Go.Ev
/- More known, the same answer. -/
namespace Go.Ev
variable {Γ : TypeId → Type} {K : Cod Γ} {β : Type}
def Q1J (l l' : Nat → LV Γ) : Prop := ∀ r, l r = .dead ∨ l' r = l r
theorem Q1J.upd {l l' : Nat → LV Γ} (h : Q1J l l') (us : List (Nat × LV Γ)) : Q1J (Qp l us) (Qp l' us) := by
 induction us with
 | nil => exact h
 | cons u us ih =>
  obtain ⟨j, v⟩ := u
  intro r
  rw [Q1L, Q1L]
  by_cases e : r = j
  ·subst e; right; simp
  ·rw [upd_ne _ _ e, upd_ne _ _ e]; exact ih r
structure Le (st st' : St Γ) : Prop where
 ev : ∀ x, st.ev x = .undef ∨ st'.ev x = st.ev x
 loc : Q1J st.loc st'.loc
section
variable {c : Ctx Γ K β} {l l' : Nat → LV Γ}
theorem loadAt_mono (hl : Q1J l l') {t : TypeId} {a : AV Γ} {kk : AV Γ → Option β} {b : β} (h : loadAt c l t a kk = some b) : ∀ kk', loadAt c l' t a kk' = loadAt c l t a kk' := by
  cases a with
  | ptr q off => rcases hl q with h0 | h0 <;> simp only [loadAt, h0] at h ⊢; · cases h
                 · exact fun _ => trivial
  | er r g i off => rcases hl r with h0 | h0 <;> simp only [loadAt, h0] at h ⊢; · cases h
                    · exact fun _ => trivial
  | _ => intro kk'; rfl
theorem Q4x (hl : Q1J l l') {t : TypeId} {x i : AV Γ} {kk : AV Γ → Option β} {b : β} (h : indexAt c l t x i kk = some b) : ∀ kk', indexAt c l' t x i kk' = indexAt c l t x i kk' := by
  cases i with
  | int k i =>
    cases x with
    | sl r g => rcases hl r with h0 | h0 <;> simp only [indexAt, h0] at h ⊢; · cases h
                · exact fun _ => trivial
    | sv r g off len => rcases hl r with h0 | h0 <;> simp only [indexAt, h0] at h ⊢; · cases h
                        · exact fun _ => trivial
    | _ => intro kk'; rfl
  | _ => intro kk'; rfl
theorem lenOf_mono (hl : Q1J l l') {t : TypeId} {x : AV Γ} {kk : AV Γ → Option β} {b : β} (h : lenOf c l t x kk = some b) : ∀ kk', lenOf c l' t x kk' = lenOf c l t x kk' := by
 cases x with
 | sl r g =>
  intro kk'
  rcases hl r with h0 | h0
  ·simp only [lenOf, h0] at h
   replace h := Q0a h; cases h.2
  ·simp only [lenOf, h0]
 | _ => intro kk'; rfl
theorem sliceOf_mono (hl : Q1J l l') {t : TypeId} {x : AV Γ} {lo hi : Option (AV Γ)} {kk : AV Γ → Option β} {b : β} (h : Q2g c l t x lo hi kk = some b) : ∀ kk', Q2g c l' t x lo hi kk' = Q2g c l t x lo hi kk' := by
  cases x with
  | sl r g => rcases hl r with h0 | h0 <;> simp only [Q2g, h0] at h ⊢; · cases h
              · exact fun _ => trivial
  | sv r g off len => rcases hl r with h0 | h0 <;> simp only [Q2g, h0] at h ⊢; · cases h
                      · exact fun _ => trivial
  | _ => intro kk'; rfl
theorem bytesOf_mono (hl : Q1J l l') {t : TypeId} {x : AV Γ} {kk : List Int → Option β} {b : β} (h : bytesOf c l t x kk = some b) : ∀ kk', bytesOf c l' t x kk' = bytesOf c l t x kk' := by
  cases x with
  | sl r g => rcases hl r with h0 | h0 <;> simp only [bytesOf, h0] at h ⊢; · cases h
              · exact fun _ => trivial
  | sv r g off len => rcases hl r with h0 | h0 <;> simp only [bytesOf, h0] at h ⊢; · cases h
                      · exact fun _ => trivial
  | _ => intro kk'; rfl
theorem Q3i (hl : Q1J l l') {inner : Bool} : ∀ (xs : List (AV Γ)) {r}, toT l inner xs = some r → toT l' inner xs = some r
 | [], r, h => h
 | x :: xs, r, h => by
  cases x with
  | int k n =>
   simp only [toT] at h ⊢
   split at h
   ·rename_i he; rw [Q3i hl xs he]; exact h
   ·cases h
  | bool k =>
   simp only [toT] at h ⊢
   split at h
   ·rename_i he; rw [Q3i hl xs he]; exact h
   ·cases h
  | str k =>
   simp only [toT] at h ⊢
   split at h
   ·rename_i he; rw [Q3i hl xs he]; exact h
   ·cases h
  | vs i e ys =>
   simp only [toT] at h ⊢
   cases inner with
   | true => exact h
   | false =>
    simp only [cond_false] at h ⊢
    split at h
    ·rename_i he; rw [Q3i hl xs he]; exact h
    ·cases h
  | sl q g =>
   simp only [toT] at h ⊢
   split at h
   ·rename_i hq he
    rcases hl q with h0 | h0
    ·rw [h0] at hq; cases hq
    ·rw [h0, hq, Q3i hl xs he]; exact h
   ·cases h
  | _ => cases h
theorem toTs_mono (hl : Q1J l l') {inner : Bool} : ∀ (xs : List (List (AV Γ))) {r}, toTs l inner xs = some r → toTs l' inner xs = some r
 | [], r, h => h
 | x :: xs, r, h => by
  simp only [toTs] at h ⊢
  split at h
  ·rename_i h1 h2
   rw [Q3i hl x h1, toTs_mono hl xs h2]; exact h
  ·cases h
theorem elemsOf_mono (hl : Q1J l l') {r : Nat} {inner : Bool} {e : TypeId} {x : AV Γ} {kk : List (Γ e) → List Nat → Option β} {b : β} (h : Q28 c l r inner e x kk = some b) : ∀ kk', Q28 c l' r inner e x kk' = Q28 c l r inner e x kk' := by
  cases x with
  | sl q g => rcases hl q with h0 | h0 <;> simp only [Q28, h0] at h ⊢; · cases h
              · exact fun _ => trivial
  | sv q g off len => rcases hl q with h0 | h0 <;> simp only [Q28, h0] at h ⊢; · cases h
                      · exact fun _ => trivial
  | lit e' k cs =>
    intro kk'
    simp only [Q28] at h ⊢
    by_cases he : e' = e
    · rw [if_pos he, if_pos he]; rw [if_pos he] at h
      cases ht : toTs l inner (chunks (K.sz e) k cs) with
      | none => rw [ht] at h; cases h
      | some tm => rw [toTs_mono hl _ ht]
    · rw [if_neg he, if_neg he]
  | _ => intro kk'; rfl
theorem mapO_mono {α α' : Type} {f f' : α → Option (α' × List Nat)} (hf : ∀ x r, f x = some r → f' x = some r) : ∀ (xs : List α) {r}, mapO f xs = some r → mapO f' xs = some r
 | [], r, h => h
 | x :: xs, r, h => by
  simp only [mapO] at h ⊢
  split at h
  ·rename_i h1
   split at h
   ·rename_i h2
    rw [hf _ _ h1]
    simp only [mapO_mono hf xs h2]
    exact h
   ·cases h
  ·cases h
theorem mapD_mono {α α' : Type} {f f' : α → Option (α' × List Nat)} (hf : ∀ x r, f x = some r → f' x = some r) : ∀ (xs : List α) {r}, mapD f xs = some r → mapD f' xs = some r
 | [], r, h => h
 | x :: xs, r, h => by
  simp only [mapD] at h ⊢
  split at h
  ·rename_i h1
   split at h
   ·rename_i h2
    rw [hf _ _ h1]
    simp only [mapD_mono hf xs h2]
    exact h
   ·cases h
  ·cases h
theorem lend_mono (hl : Q1J l l') : ∀ (f : Nat) (v : AV Γ) (r), lend l f v = some r → lend l' f v = some r := by
  intro f
  induction f with
  | zero => intro v r h; cases h
  | succ f ih =>
    intro v r h
    cases v with
    | sl q g => rcases hl q with h0 | h0 <;> simp only [lend, h0] at h ⊢; · cases h
                · exact h
    | sv q g off len => rcases hl q with h0 | h0 <;> simp only [lend, h0] at h ⊢; · cases h
                        · exact h
    | ptr q off =>
      cases off with
      | succ o => exact h
      | zero =>
        rcases hl q with h0 | h0 <;> simp only [lend, h0] at h ⊢
        · cases h
        · split at h
          · split at h
            · rename_i hm
              simp only [mapO_mono ih _ hm]
              exact h
            · cases h
          · cases h
    | fn g caps =>
      simp only [lend] at h ⊢
      split at h
      · rename_i hm
        simp only [mapO_mono ih _ hm]
        exact h
      · cases h
    | _ => exact h
theorem ownT_mono (hl : Q1J l l') (v : AV Γ) (r) (h : ownT l v = some r) : ownT l' v = some r := by
  cases v with
  | sl q g => rcases hl q with h0 | h0 <;> simp only [ownT, h0] at h ⊢; · cases h
              · exact h
  | fn f caps => cases caps <;> exact h
  | sv q g off len =>
    cases off with
    | succ o => exact h
    | zero =>
      rcases hl q with h0 | h0 <;> simp only [ownT, h0] at h ⊢
      · cases h
      · exact h
  | ptr q off =>
    cases off with
    | succ o => exact h
    | zero =>
      rcases hl q with h0 | h0 <;> simp only [ownT, h0] at h ⊢
      · cases h
      · exact h
  | _ => exact h
theorem ownV_mono (hl : Q1J l l') (v : AV Γ) (r) (h : ownV l v = some r) : ownV l' v = some r := by
 cases v with
 | agg cs =>
  simp only [ownV] at h ⊢
  split at h
  ·rename_i hm
   simp only [mapD_mono (ownT_mono hl) _ hm]
   exact h
  ·cases h
 | _ =>
  simp only [ownV] at h ⊢
  split at h
  ·rename_i hm
   simp only [ownT_mono hl _ _ hm]
   exact h
  ·cases h
theorem lendV_mono (hl : Q1J l l') (v : AV Γ) (r) (h : lendV l v = some r) : lendV l' v = some r := by
 cases v with
 | agg cs =>
  simp only [lendV] at h ⊢
  split at h
  ·rename_i hm
   simp only [mapO_mono (lend_mono hl 4) _ hm]
   exact h
  ·cases h
 | _ =>
  simp only [lendV] at h ⊢
  split at h
  ·rename_i hm
   simp only [lend_mono hl _ _ _ hm]
   exact h
  ·cases h
theorem Q46 (hl : Q1J l l') : ∀ (ms : List Mode) (vs : List (AV Γ)) {r}, Q2b l ms vs = some r → Q2b l' ms vs = some r
 | [], [], r, h => h
 | [], v :: vs, r, h => h
 | m :: ms, [], r, h => by cases m <;> exact h
 | m :: ms, v :: vs, r, h => by
  cases m with
  | lend =>
   simp only [Q2b] at h ⊢
   split at h
   ·rename_i h1 h2
    simp only [lendV_mono hl _ _ h1, Q46 hl ms vs h2]
    exact h
   ·cases h
  | keep =>
   simp only [Q2b] at h ⊢
   split at h
   ·rename_i h1 h2
    simp only [ownV_mono hl _ _ h1, Q46 hl ms vs h2]
    exact h
   ·cases h
  | give =>
   simp only [Q2b] at h ⊢
   split at h
   ·rename_i h1 h2
    simp only [ownV_mono hl _ _ h1, Q46 hl ms vs h2]
    exact h
   ·cases h
theorem absT_mono (hl : Q1J l l') (v : AV Γ) (t : T Γ) {r} (h : absT l v t = some r) : absT l' v t = some r := by
 unfold absT at h ⊢
 split at h
 ·rename_i q g i e xs
  rcases hl q with h0 | h0
  ·rw [h0] at h; cases h
  ·rw [h0]; exact h
 ·rename_i b t ts
  rcases hl b with h0 | h0
  ·rw [h0] at h; cases h
  ·rw [h0]; exact h
 ·cases h
 ·cases h
 ·exact h
theorem absL_mono (hl : Q1J l l') : ∀ (vs : List (AV Γ)) (ts : List (T Γ)) {r}, absL l vs ts = some r → absL l' vs ts = some r
 | [], [], r, h => h
 | [], t :: ts, r, h => h
 | v :: vs, [], r, h => h
 | v :: vs, t :: ts, r, h => by
  simp only [absL] at h ⊢
  split at h
  ·rename_i h1 h2
   simp only [absT_mono hl v t h1, absL_mono hl vs ts h2]
   exact h
  ·cases h
theorem absB_mono (hl : Q1J l l') (v : AV Γ) (t : TV Γ) {r} (h : absB l v t = some r) : absB l' v t = some r := by
 cases t with
 | one t => cases v <;> exact absT_mono hl _ _ h
 | agg ts =>
  cases v with
  | agg vs => exact absL_mono hl vs ts h
  | _ => exact h
 | tup ts => cases v <;> exact h
theorem Q4y (hl : Q1J l l') : ∀ (vs : List (AV Γ)) (ts : List (Option (TV Γ))) {r}, Q2n l vs ts = some r → Q2n l' vs ts = some r
 | [], [], r, h => h
 | [], t :: ts, r, h => by cases t <;> exact h
 | v :: vs, [], r, h => h
 | v :: vs, none :: ts, r, h => by
  simp only [Q2n] at h ⊢
  exact Q4y hl vs ts h
 | v :: vs, some t :: ts, r, h => by
  simp only [Q2n] at h ⊢
  split at h
  ·rename_i h1 h2
   simp only [absB_mono hl v t h1, Q4y hl vs ts h2]
   exact h
  ·cases h
end
theorem Le.loc' {st st' : St Γ} (h : Le st st') (us : List (Nat × LV Γ)) : Q1J ({ st with loc := Qp st.loc us } : St Γ).loc ({ st' with loc := Qp st'.loc us } : St Γ).loc := h.loc.upd us
section
variable {P : Program} {c : Ctx Γ K β} {st st' : St Γ}
theorem append_mono (hle : Q1J st.loc st'.loc) {n : Nat} {t : TypeId} {s x : AV Γ} {kk : Act Γ → Option β} {b : β} (h : append c st n t s x kk = some b) : ∀ kk', append c st' n t s x kk' = append c st n t s x kk' := by
 cases s with
 | sl r g =>
  rcases hle r with h0 | h0 <;> simp only [append, h0] at h ⊢
  ·cases h
  ·cases hr : st.loc r with
   | row g' inner e xs =>
    rw [hr] at h; simp only at h ⊢
    replace h := Q0a h; obtain ⟨hb, h⟩ := h
    intro kk'
    rw [hb]; simp only [cond_true]
    obtain ⟨ys, m, he, _⟩ := Q4o (K := K) h
    rw [elemsOf_mono hle h]
   | _ => intro kk'; rfl
 | nil =>
  simp only [append] at h ⊢
  cases hE : c.elem t with
  | none => intro kk'; rfl
  | some e =>
   rw [hE] at h; simp only at h ⊢
   intro kk'
   rw [elemsOf_mono hle h]
 | _ => intro kk'; rfl
theorem storeAt_mono (hle : Q1J st.loc st'.loc) {n : Nat} {t : TypeId} {a v : AV Γ} {kk : Act Γ → Option β} {b : β} (h : storeAt c st n t a v kk = some b) : ∀ kk', storeAt c st' n t a v kk' = storeAt c st n t a v kk' := by
 cases a with
 | ptr q off =>
  rcases hle q with h0 | h0 <;> simp only [storeAt, h0] at h ⊢
  ·cases h
  ·exact fun _ => trivial
 | er r g i off =>
  rcases hle r with h0 | h0 <;> simp only [storeAt, h0] at h ⊢
  ·cases h
  ·cases hr : st.loc r with
   | row g' inner e xs =>
    rw [hr] at h; simp only at h ⊢
    replace h := Q0a h; obtain ⟨hb, h⟩ := h
    intro kk'
    rw [hb]; simp only [cond_true]
    cases hx : xs[i]? with
    | none => rfl
    | some x =>
     rw [hx] at h; simp only [Z0] at h ⊢
     cases ht : toT st.loc inner v.cellsOf with
     | none => rw [ht] at h; cases h
     | some tm => rw [Q3i hle _ ht]
   | _ => intro kk'; rfl
 | _ => intro kk'; rfl
theorem callF_mono (hle : Q1J st.loc st'.loc) (hG : ∀ f cal, c.G f = some cal → Con P K f cal) {n f : Nat} {args : List (AV Γ)} {kk : Act Γ → Option β} {b : β} (h : callF c st n f args kk = some b) : ∀ kk', callF c st' n f args kk' = callF c st n f args kk' := by
 intro kk'
 unfold callF at h ⊢
 cases hg : c.G f with
 | none => rfl
 | some cal =>
  rw [hg] at h; simp only at h ⊢
  cases hbx : cal.boxer with
  | some tg => obtain ⟨t, g⟩ := tg; rfl
  | none =>
  rw [hbx] at h; simp only at h ⊢
  cases he : Q2b st.loc cal.modes args with
  | none => rw [he] at h; cases h
  | some tol =>
   obtain ⟨tvs, o, l⟩ := tol
   rw [he] at h; simp only at h
   rw [Q46 hle _ _ he]; simp only
   cases hd : disj o l with
   | false => rfl
   | true =>
    rw [hd] at h; simp only [cond_true] at h ⊢
    obtain ⟨r, hnat, _⟩ := (hG f cal hg).sem tvs _ b h
    rw [hnat] at h
    rw [hnat, hnat]
    cases hsh : ((sharesV c.X.flat r.1 || anyB (sharesO c.X.flat) r.2) && !(l.isEmpty)) with
    | true => rfl
    | false =>
     rw [hsh] at h; simp only [cond_false] at h ⊢
     cases hu : Q2n st.loc args r.2 with
     | none => rw [hu] at h; cases h
     | some u => rw [Q4y hle _ _ hu]
theorem Q4L (hle : Le st st') : ∀ (xs : List Operand) (ts : List TypeId) (m : Nat) {kk : List (AV Γ) → List (Nat × LV Γ) → Option β} {b : β}, Q2B c st m xs ts kk = some b → ∀ kk', Q2B c st' m xs ts kk' = Q2B c st m xs ts kk'
 | [], ts, m, kk, b, h, kk' => by cases ts <;> rfl
 | x :: xs, [], m, kk, b, h, kk' => rfl
 | x :: xs, t :: ts, m, kk, b, h, kk' => by
  simp only [Q2B] at h ⊢
  rcases hle.ev x with h0 | h0
  ·rw [h0] at h; cases h
  ·obtain ⟨act, h1, _⟩ := Q3c h
   rw [h1] at h
   rw [h0, h1, h1]
   exact Q4L hle xs ts (m + 1) h _
theorem Q4z (hle : Le st st') {mx : Bool} : ∀ (xs : List Operand) (x : AV Γ) {kk : AV Γ → Option β} {b : β}, Q29 mx x (xs.map st.ev) kk = some b → ∀ kk' : AV Γ → Option β, Q29 mx x (xs.map st'.ev) kk' = Q29 mx x (xs.map st.ev) kk'
 | [], x, kk, b, h, kk' => rfl
 | y :: ys, x, kk, b, h, kk' => by
  rw [Z16] at h ⊢
  rw [Z16]
  rcases hle.ev y with h0 | h0
  ·rw [h0] at h; cases x <;> simp [Q29] at h
  ·rw [h0]
   cases x with
   | int k a =>
    cases hy : st.ev y with
    | int k' b' =>
     rw [hy] at h
     simp only [Q29] at h ⊢
     split at h
     ·rename_i hk
      rw [if_pos hk, if_pos hk]
      exact Q4z hle ys _ h kk'
     ·cases h
    | _ => rfl
   | _ => rfl
theorem partsOf_mono (hle : Le st st') : ∀ (ps : List (Nat × Operand)) {r}, partsOf st ps = some r → partsOf st' ps = some r
 | [], r, h => h
 | (i, x) :: ps, r, h => by
  simp only [partsOf] at h ⊢
  rcases hle.ev x with h0 | h0
  ·rw [h0] at h; cases h
  ·rw [h0]
   replace h := Q0a h; obtain ⟨hb, h⟩ := h
   rw [hb]; simp only [cond_true]
   split at h
   ·rename_i hr
    rw [partsOf_mono hle ps hr]; exact h
   ·cases h
theorem evs_mono (hle : Le st st') : ∀ (xs : List Operand), (∀ v ∈ xs.map st.ev, v ≠ .undef) → xs.map st'.ev = xs.map st.ev
 | [], _ => rfl
 | x :: xs, h => by
  rw [Z16, Z16]
  rcases hle.ev x with h0 | h0
  ·exact absurd h0 (h _ (by simp))
  ·rw [h0, evs_mono hle xs fun v hv => h v (by simp [hv])]
theorem toTs_ne {loc : Nat → LV Γ} {inner : Bool} : ∀ (xs : List Operand) {r}, toTs loc inner (xs.map fun x => (st.ev x).cellsOf) = some r → ∀ x ∈ xs, st.ev x ≠ .undef
 | [], r, h, x, hx => by cases hx
 | y :: ys, r, h, x, hx => by
  rw [Z16] at h
  simp only [toTs] at h
  split at h
  ·rename_i h1 h2
   rcases Z13.1 hx with rfl | hx
   ·intro e; rw [e] at h1; simp [AV.cellsOf, toT] at h1
   ·exact toTs_ne ys h2 x hx
  ·cases h
end
end Go.Ev
/- More known, the same answer: every operation. -/
namespace Go.Ev
variable {Γ : TypeId → Type} {K : Cod Γ} {β : Type}
theorem binopT_undef_r {c : Ctx Γ K β} {t : TypeId} {op : BinOp} {x : AV Γ} {kk : AV Γ → Option β} : Q2k c t op x .undef kk = none := by cases x <;> rfl
theorem bounds_lo_undef {n : Nat} {hi : Option (AV Γ)} {kk : Nat → Nat → Option β} : bounds n (some .undef) hi kk = none := by
 cases hi with
 | none => rfl
 | some x =>
  cases x with
  | int k h => simp only [bounds]; cases decide (0 ≤ h ∧ h ≤ (n : Int)) <;> rfl
  | _ => rfl
theorem bounds_hi_undef {n : Nat} {lo : Option (AV Γ)} {kk : Nat → Nat → Option β} : bounds n lo (some .undef) kk = none := rfl
theorem Q4M {c : Ctx Γ K β} {loc : Nat → LV Γ} {t : TypeId} {x : AV Γ} {lo hi : Option (AV Γ)} {kk : AV Γ → Option β} (h : ∀ (n : Nat) (k : Nat → Nat → Option β), bounds n lo hi k = none) : Q2g c loc t x lo hi kk = none := by
 unfold Q2g
 split
 ·rw [h]; cases c.isStr t <;> rfl
 ·rename_i e xs; rw [h]; cases c.elemIs t e <;> rfl
 ·split
  ·rename_i g' i e xs _; rw [h]; cases (Nat.beq _ g' && c.elemIs t e) <;> rfl
  ·rename_i g' i e xs _; rw [h]; cases (Nat.beq _ g' && c.elemIs t e) <;> rfl
  ·rfl
 ·split
  ·rename_i g' i e xs _; rw [h]; cases (Nat.beq _ g' && c.elemIs t e) <;> rfl
  ·rfl
 ·rfl
theorem opt_mono {st st' : St Γ} (hle : Le st st') (q : Option Operand) : q.map st.ev = some .undef ∨ q.map st'.ev = q.map st.ev := by
  cases q with
  | none => exact .inr rfl
  | some x => rcases hle.ev x with h | h
              · left; simp [h]
              · right; simp [h]
theorem load_mono {c : Ctx Γ K β} {l l' : Nat → LV Γ} (hl : Q1J l l') {n : Nat} {t : TypeId} {a : AV Γ} {kk : Act Γ → Option β} {b : β} (h : (bif takes c l t a then Q2I c l n t a kk else loadAt c l t a fun v => kk ⟨v, []⟩) = some b) (kk' : Act Γ → Option β) :
  (bif takes c l' t a then Q2I c l' n t a kk' else loadAt c l' t a fun v => kk' ⟨v, []⟩) = bif takes c l t a then Q2I c l n t a kk' else loadAt c l t a fun v => kk' ⟨v, []⟩ := by
 cases a with
 | er r g i off =>
  rcases hl r with hd | hd
  ·have e1 : takes c l t (.er r g i off) = false := by simp only [takes, hd]
   rw [e1] at h
   simp only [loadAt, hd] at h
   cases h
  ·have e1 : takes c l' t (.er r g i off) = takes c l t (.er r g i off) := by simp only [takes, hd]
   have e2 : Q2I c l' n t (.er r g i off) kk' = Q2I c l n t (.er r g i off) kk' := by simp only [Q2I, hd]
   rw [e1, e2]
   cases ht : takes c l t (.er r g i off) with
   | true => rfl
   | false =>
    rw [ht] at h
    simp only [cond_false] at h ⊢
    exact loadAt_mono hl h _
 | _ =>
  simp only [takes, cond_false] at h ⊢
  exact loadAt_mono hl h _
theorem closeAt_mono {l l' : Nat → LV Γ} (hl : Q1J l l') {r : Nat} {u : List (Nat × LV Γ)} (h : Q2t K l r = some u) : Q2t K l' r = some u := by
 unfold Q2t at h ⊢
 rcases hl r with hd | hd
 ·rw [hd] at h; cases h
 ·rw [hd]
  split at h
  ·rename_i g e xs x i off n hr
   rcases hl n with hn | hn
   ·rw [hn] at h; cases h
   ·simp only [hn]
    exact h
  ·cases h
theorem closeAt_none {c : Ctx Γ K β} {l l' : Nat → LV Γ} (hl : Q1J l l') {r g : Nat} {t : TypeId} {i : AV Γ} {kk : AV Γ → Option β} {b : β} (hc : Q2t K l r = none) (h : indexAt c l t (.sl r g) i kk = some b) : Q2t K l' r = none := by
 unfold Q2t
 rcases hl r with hd | hd
 ·exfalso
  unfold indexAt at h
  cases i <;> simp only [hd] at h <;> cases h
 ·rw [hd]
  cases hr : l r with
  | hrow g' e xs x j off n =>
   exfalso
   unfold indexAt at h
   cases i <;> simp only [hr] at h <;> cases h
  | _ => rfl
theorem evalOp_mono {P : Program} {c : Ctx Γ K β} (hG : ∀ f cal, c.G f = some cal → Con P K f cal) {st st' : St Γ} (hle : Le st st') {n : Nat} {o : Oper} {kk : Act Γ → Option β} {b : β} (h : Q8 c st n o kk = some b) :
  ∀ kk', Q8 c st' n o kk' = Q8 c st n o kk' := by
 intro kk'
 cases ho : o.op with
 | move x =>
  simp only [Q8, ho] at h ⊢
  rcases hle.ev x with h0 | h0
  ·rw [h0] at h
   cases h
  ·rw [h0]
 | assign x =>
  simp only [Q8, ho] at h ⊢
  rcases hle.ev x with h0 | h0
  ·rw [h0] at h
   cases h
  ·rw [h0]
 | pick x y z =>
  simp only [Q8, ho] at h ⊢
  rcases hle.ev x with h0 | h0
  ·rw [h0] at h; cases h
  ·rw [h0]
   cases hx : st.ev x with
   | bool t =>
    rw [hx] at h; simp only at h ⊢
    cases t with
    | true =>
     simp only [cond_true] at h ⊢
     rcases hle.ev y with h1 | h1
     ·rw [h1] at h; cases h
     ·rw [h1]
    | false =>
     simp only [cond_false] at h ⊢
     rcases hle.ev z with h1 | h1
     ·rw [h1] at h; cases h
     ·rw [h1]
   | _ => rfl
 | alloc t => simp only [Q8, ho]
 | box t x =>
  simp only [Q8, ho] at h ⊢
  rcases hle.ev x with h0 | h0
  ·rw [h0] at h; cases h
  ·rw [h0]
 | build t parts =>
  simp only [Q8, ho] at h ⊢
  cases hi : c.ty t with
  | none => rfl
  | some i =>
   obtain ⟨kind, s, by_, zero⟩ := i
   rw [hi] at h
   cases kind with
   | agg fs =>
    replace h := Q0a h; obtain ⟨hb, h⟩ := h
    cases hp : partsOf st parts.toList with
    | none => rw [hp] at h; cases h
    | some qs => simp only [partsOf_mono hle _ hp]
   | _ => rfl
 | buildSlice t len parts =>
  simp only [Q8, ho] at h ⊢
  cases hE : c.elem t with
  | none => rfl
  | some e =>
   rw [hE] at h
   replace h := Q0a h; obtain ⟨hb, h⟩ := h
   simp only
   rw [hb]; simp only [cond_true]
   have hmap : ∀ (g : St Γ), (parts.toList.map fun p => (g.ev p.2).cellsOf) = (parts.toList.map (·.2)).map fun x => (g.ev x).cellsOf := fun g => by rw [Z23]; rfl
   have key : ∀ inner, (∃ r, toTs st.loc inner (parts.toList.map fun p => (st.ev p.2).cellsOf) = some r) → (parts.toList.map fun p => (st'.ev p.2).cellsOf) = (parts.toList.map fun p => (st.ev p.2).cellsOf) := by
    intro inner ⟨r, hr⟩
    rw [hmap] at hr
    have hne := toTs_ne _ hr
    rw [hmap, hmap]
    apply Z45
    intro x hx
    rcases hle.ev x with h0 | h0
    ·exact absurd h0 (hne x hx)
    ·rw [h0]
   cases hlits : (c.lits && (parts.toList.map fun p => (st.ev p.2).cellsOf).any hasSl) with
   | true =>
    rw [hlits] at h; simp only [cond_true] at h
    replace h := Q0a h; obtain ⟨hall, h⟩ := h
    have hev : ∀ p ∈ parts.toList, st'.ev p.2 = st.ev p.2 := fun p hp => by
     rcases hle.ev p.2 with h0 | h0
     ·have := Z49.1 hall p hp
      rw [h0] at this; cases this
     ·exact h0
    have e1 : (parts.toList.map fun p => (st'.ev p.2).cellsOf) = (parts.toList.map fun p => (st.ev p.2).cellsOf) := Z45 fun p hp => by rw [hev p hp]
    have e2 : parts.toList.all (fun p => (st'.ev p.2).cellsOk && (st'.ev p.2).cellsOf.length.beq (K.sz e)) = true := Z49.2 fun p hp => by rw [hev p hp]; exact Z49.1 hall p hp
    simp only [e1, hlits, e2, hall, cond_true]
   | false =>
   rw [hlits] at h; simp only [cond_false] at h
   generalize hin : (bif (parts.toList.map fun p => (st.ev p.2).cellsOf).any hasVs then false else bif (parts.toList.map fun p => (st.ev p.2).cellsOf).any hasSl then true else c.inner e) = inner at h
   cases ht : toTs st.loc inner (parts.toList.map fun p => (st.ev p.2).cellsOf) with
   | none => rw [ht] at h; cases h
   | some tm =>
    simp only [key inner ⟨_, ht⟩, hlits, cond_false, hin, toTs_mono hle.loc _ ht, ht]
 | load t a =>
  simp only [Q8, ho] at h ⊢
  rcases hle.ev a with h0 | h0
  ·rw [h0] at h; cases h
  ·rw [h0]
   exact load_mono hle.loc h _
 | store t a x =>
  simp only [Q8, ho] at h ⊢
  rcases hle.ev a with h0 | h0
  ·rw [h0] at h; cases h
  ·rw [h0]
   rcases hle.ev x with h1 | h1
   ·rw [h1] at h
    cases ha : st.ev a with
    | ptr q off =>
     rw [ha] at h
     simp only [storeAt] at h
     cases hq : st.loc q <;> rw [hq] at h <;> cases h
    | er r g i off =>
     rw [ha] at h
     simp only [storeAt] at h
     cases hq : st.loc r with
     | row g' inner e xs =>
      rw [hq] at h; simp only at h
      replace h := Q0a h; obtain ⟨hb, h⟩ := h
      cases hx : xs[i]? with
      | none => rw [hx] at h; cases h
      | some y => rw [hx] at h; simp [AV.cellsOf, toT] at h
     | _ => rw [hq] at h; cases h
    | _ => rw [ha] at h; cases h
   ·rw [h1]; exact storeAt_mono hle.loc h _
 | nilCheck x =>
  simp only [Q8, ho] at h ⊢
  rcases hle.ev x with h0 | h0
  ·rw [h0] at h
   cases h
  ·rw [h0]
 | binOp op t x y t' =>
  simp only [Q8, ho] at h ⊢
  rcases hle.ev x with h0 | h0
  ·rw [h0] at h; cases h
  ·rw [h0]
   rcases hle.ev y with h1 | h1
   ·rw [h1, binopT_undef_r] at h; cases h
   ·rw [h1]
 | unOp op t x =>
  simp only [Q8, ho] at h ⊢
  rcases hle.ev x with h0 | h0
  ·rw [h0] at h
   cases op <;> cases h
  ·rw [h0]
 | convert src dst x =>
  simp only [Q8, ho] at h ⊢
  rcases hle.ev x with h0 | h0
  ·rw [h0] at h
   cases hd : c.ty dst with
   | none => rfl
   | some i =>
    obtain ⟨kind, s, by_, zero⟩ := i
    rw [hd] at h
    cases kind with
    | str => replace h := Q0a h; obtain ⟨hb, h⟩ := h; cases h
    | _ => cases h
  ·rw [h0]
   cases hd : c.ty dst with
   | none => rfl
   | some i =>
    obtain ⟨kind, s, by_, zero⟩ := i
    rw [hd] at h
    cases kind with
    | str =>
     replace h := Q0a h; obtain ⟨hb, h⟩ := h
     simp only [hb, cond_true]
     exact bytesOf_mono hle.loc h _
    | int k => cases st.ev x <;> rfl
    | sl e => cases st.ev x <;> rfl
    | _ => rfl
 | makeFunc fn first captured =>
  cases fn with
  | func f =>
   simp only [Q8, ho] at h ⊢
   replace h := Q0a h; obtain ⟨hb, h⟩ := h
   have hb' := hb
   rw [Z4] at hb'
   rw [evs_mono hle captured.toList fun v hv e => by
    have := Z49.1 hb'.2 v hv
    rw [e] at this; cases this]
  | _ => simp only [Q8, ho]
 | makeSlice t l cp =>
  simp only [Q8, ho] at h ⊢
  cases hE : c.elem t with
  | none => rfl
  | some e =>
   rw [hE] at h
   rcases hle.ev l with h0 | h0
   ·rw [h0] at h; cases h
   ·rw [h0]
    rcases hle.ev cp with h1 | h1
    ·rw [h1] at h; cases hl : st.ev l <;> rw [hl] at h <;> cases h
    ·rw [h1]
 | slice t x lo hi mx =>
  cases mx with
  | some m => simp only [Q8, ho]
  | none =>
   simp only [Q8, ho] at h ⊢
   rcases hle.ev x with h0 | h0
   ·rw [h0] at h; cases h
   ·rw [h0]
    rcases opt_mono hle lo with h1 | h1
    ·rw [h1, Q4M fun n k => bounds_lo_undef] at h; cases h
    ·rcases opt_mono hle hi with h2 | h2
     ·rw [h2, Q4M fun n k => bounds_hi_undef] at h; cases h
     ·rw [h1, h2]; exact sliceOf_mono hle.loc h _
 | fieldAddr t x f =>
  simp only [Q8, ho] at h ⊢
  rcases hle.ev x with h0 | h0
  ·rw [h0] at h
   cases hf : c.field t f <;> rw [hf] at h <;> cases h
  ·rw [h0]
 | field t x f =>
  simp only [Q8, ho] at h ⊢
  rcases hle.ev x with h0 | h0
  ·rw [h0] at h
   cases hf : c.field t f with
   | none => rfl
   | some osa => obtain ⟨off, sz, ag⟩ := osa; rw [hf] at h; cases ag <;> cases h
  ·rw [h0]
 | indexAddr t x i =>
  simp only [Q8, ho] at h ⊢
  rcases hle.ev i with h0 | h0
  ·rw [h0] at h
   exfalso
   split at h
   ·split at h <;> cases h
   ·cases h
  ·rw [h0]
   rcases hle.ev x with h1 | h1
   ·rw [h1] at h; cases hi : st.ev i <;> rw [hi] at h <;> cases h
   ·rw [h1]
    cases hx : st.ev x with
    | sl r g =>
     rw [hx] at h
     simp only at h ⊢
     cases hc : Q2t K st.loc r with
     | some u =>
      rw [hc] at h
      rw [closeAt_mono hle.loc hc]
      exact Q4x (hle.loc.upd u) h _
     | none =>
      rw [hc] at h
      have hd := closeAt_none hle.loc hc h
      rw [hd]
      exact Q4x hle.loc h _
    | _ => rw [hx] at h; exact Q4x hle.loc h _
 | index t x i =>
  simp only [Q8, ho] at h ⊢
  rcases hle.ev x with h0 | h0
  ·rw [h0] at h; cases h
  ·rw [h0]
   rcases hle.ev i with h1 | h1
   ·rw [h1] at h; cases hx : st.ev x <;> rw [hx] at h <;> cases h
   ·rw [h1]
 | extract x i =>
  simp only [Q8, ho] at h ⊢
  rcases hle.ev x with h0 | h0
  ·rw [h0] at h
   cases h
  ·rw [h0]
 | call cl =>
  simp only [Q8, ho] at h ⊢
  cases hc : cl.callee with
  | builtin bu =>
   simp only [Q2u, hc] at h ⊢
   cases bu with
   | len =>
    simp only at h ⊢
    split at h
    ·rename_i x t hx ht
     rcases hle.ev x with h0 | h0
     ·rw [h0] at h; cases h
     ·rw [h0]; exact lenOf_mono hle.loc h _
    ·cases h
   | append =>
    simp only at h ⊢
    split at h
    ·rename_i s x t t' hx ht
     replace h := Q0a h; obtain ⟨hb, h⟩ := h
     simp only [hb, cond_true]
     rcases hle.ev s with h0 | h0
     ·rw [h0] at h; cases h
     ·rw [h0]
      rcases hle.ev x with h1 | h1
      ·rw [h1] at h
       cases hs : st.ev s with
       | sl r g =>
        rw [hs] at h
        simp only [append] at h
        cases hr : st.loc r with
        | row g' inner e xs =>
         rw [hr] at h; simp only at h
         replace h := Q0a h; obtain ⟨hb2, h⟩ := h; cases h
        | _ => rw [hr] at h; cases h
       | nil =>
        rw [hs] at h
        simp only [append] at h
        cases hE : c.elem t <;> rw [hE] at h <;> cases h
       | _ => rw [hs] at h; cases h
      ·rw [h1]; exact append_mono hle.loc h _
    ·cases h
   | max =>
    simp only at h ⊢
    cases hargs : cl.args.toList with
    | nil => rfl
    | cons x xs =>
     rw [hargs] at h
     rw [Z16] at h
     simp only [Z16] at h ⊢
     rcases hle.ev x with h0 | h0
     ·rw [h0] at h; cases hxs : xs.map st.ev <;> rw [hxs] at h <;> cases h
     ·rw [h0]; exact Q4z hle xs _ h _
   | min =>
    simp only at h ⊢
    cases hargs : cl.args.toList with
    | nil => rfl
    | cons x xs =>
     rw [hargs] at h
     rw [Z16] at h
     simp only [Z16] at h ⊢
     rcases hle.ev x with h0 | h0
     ·rw [h0] at h; cases hxs : xs.map st.ev <;> rw [hxs] at h <;> cases h
     ·rw [h0]; exact Q4z hle xs _ h _
   | _ => rfl
  | invoke r nm => simp only [Q2u, hc]
  | value f =>
   simp only [Q2u, hc] at h ⊢
   rcases hle.ev f with h0 | h0
   ·rw [h0] at h; cases h
   ·rw [h0]
    cases hf : st.ev f with
    | fn g caps =>
     rw [hf] at h; simp only at h ⊢
     replace h := Q0a h; obtain ⟨hb, h⟩ := h
     rw [hb]; simp only [cond_true]
     rw [Q4L hle _ _ _ h]
     obtain ⟨vs, u, h1, _⟩ := Q4t _ _ _ h
     rw [h1] at h
     rw [h1, h1]
     exact callF_mono (hle.loc' u) hG h _
    | _ => rfl
 | _ => simp only [Q8, ho]
end Go.Ev
/- Regions that draw their order. -/
namespace Go.Ev
variable {Γ : TypeId → Type} {K : Cod Γ} {β : Type}
def puts (D : Nat → Bool) : Nat → List (Rec × Act Γ) → St Γ → St Γ
 | _, [], st => st
 | i, (x, a) :: tr, st => puts D (i + 1) tr (bif D i then st.put x.dst a else st)
theorem put_len (st : St Γ) (dst : Option Nat) (a : Act Γ) : (st.put dst a).slots.length = st.slots.length := by
 cases dst <;> simp [St.put, Q2T]
theorem put_get (st : St Γ) (dst : Option Nat) (a : Act Γ) {t : Nat} (h : dst ≠ some t) : (st.put dst a).get t = st.get t := by
 cases dst with
 | none => rfl
 | some d =>
  have : d ≠ t := fun e => h (by rw [e])
  simp [St.put, Q2T, St.get, Z9, List.getElem?_set, this]
theorem Q3x (l : Nat → LV Γ) : ∀ (us : List (Nat × LV Γ)) {r : Nat}, r ∉ us.map (·.1) → Qp l us r = l r
 | us, r, h => (Q3J l us r).2 h
theorem puts_get {D D' : Nat → Bool} {t : Nat} : ∀ (tr : List (Rec × Act Γ)) (i : Nat) (st st' : St Γ), st.slots.length = st'.slots.length → st.get t = st'.get t → (∀ k x a, tr[k]? = some (x, a) → D (i + k) = D' (i + k) ∨ x.dst ≠ some t) →
  (puts D i tr st).get t = (puts D' i tr st').get t ∧ (puts D i tr st).slots.length = (puts D' i tr st').slots.length
 | [], _, _, _, hl, h, _ => ⟨h, hl⟩
 | (x, a) :: tr, i, st, st', hl, h, hk => by
  simp only [puts]
  refine puts_get tr (i + 1) _ _ ?_ ?_ (fun k y b hy => by
   have := hk (k + 1) y b (by simpa using hy)
   rw [show i + (k + 1) = i + 1 + k by omega] at this
   exact this)
  ·cases D i <;> cases D' i <;> simp only [cond_true, cond_false, put_len, hl]
  ·rcases hk 0 x a rfl with h0 | h0
   ·rw [Z31] at h0
    rw [h0]
    cases D' i with
    | false => exact h
    | true =>
     simp only [cond_true]
     by_cases hd : x.dst = some t
     ·have key : ∀ s : St Γ, (s.put x.dst a).get t = if t < s.slots.length then a.val else s.get t := by
       intro s
       rw [hd]
       simp only [St.put, Q2T, St.get, Z9, List.getElem?_set]
       rw [if_pos trivial]
       split
       ·rfl
       ·rename_i h2
        rw [Z21 (Nat.le_of_not_lt h2)]
      rw [key, key, hl, h]
     ·rw [put_get _ _ _ hd, put_get _ _ _ hd]; exact h
   ·have e : ∀ (b : Bool) (s : St Γ), (bif b then s.put x.dst a else s).get t = s.get t := by
     intro b s; cases b with
     | false => rfl
     | true => exact put_get _ _ _ h0
    rw [e, e]; exact h
theorem puts_loc {D D' : Nat → Bool} {r : Nat} : ∀ (tr : List (Rec × Act Γ)) (i : Nat) (st st' : St Γ), st.loc r = st'.loc r → (∀ k x a, tr[k]? = some (x, a) → D (i + k) = D' (i + k) ∨ r ∉ a.upd.map (·.1)) →
  (puts D i tr st).loc r = (puts D' i tr st').loc r
 | [], _, _, _, h, _ => h
 | (x, a) :: tr, i, st, st', h, hk => by
  simp only [puts]
  refine puts_loc tr (i + 1) _ _ ?_ (fun k y b hy => by
   have := hk (k + 1) y b (by simpa using hy)
   rw [show i + (k + 1) = i + 1 + k by omega] at this
   exact this)
  rcases hk 0 x a rfl with h0 | h0
  ·rw [Z31] at h0
   rw [h0]
   cases D' i with
   | false => exact h
   | true =>
    show Qp st.loc a.upd r = Qp st'.loc a.upd r
    by_cases hr : r ∈ a.upd.map (·.1)
    ·-- what is written is the same
     have : ∀ (us : List (Nat × LV Γ)) (l l' : Nat → LV Γ), r ∈ us.map (·.1) → Qp l us r = Qp l' us r := by
      intro us
      induction us with
      | nil => intro l l' h; simp at h
      | cons u us ih =>
       intro l l' hm
       obtain ⟨j, v⟩ := u
       rw [Q1L, Q1L]
       by_cases e : r = j
       ·subst e; simp
       ·rw [upd_ne _ _ e, upd_ne _ _ e]
        refine ih l l' ?_
        rw [Z16] at hm
        rcases Z13.1 hm with hm | hm
        ·exact absurd hm e
        ·exact hm
     exact this _ _ _ hr
    ·rw [Q3x _ _ hr, Q3x _ _ hr]; exact h
  ·have e : ∀ (b : Bool) (s : St Γ), (bif b then s.put x.dst a else s).loc r = s.loc r := by
    intro b s; cases b with
    | false => rfl
    | true => exact Q3x _ _ h0
   rw [e, e]; exact h
theorem updLoc_comm {us vs : List (Nat × LV Γ)} (h : ∀ r ∈ us.map (·.1), r ∉ vs.map (·.1)) (l : Nat → LV Γ) : Qp (Qp l us) vs = Qp (Qp l vs) us := by
 funext r
 by_cases hv : r ∈ vs.map (·.1)
 ·have hu : r ∉ us.map (·.1) := fun hu => h r hu hv
  rw [Q3x _ us hu]
  obtain ⟨lv, _, h2⟩ := (Q3J (Qp l us) vs r).1 hv
  have : ∀ (us : List (Nat × LV Γ)) (l l' : Nat → LV Γ), r ∈ us.map (·.1) → Qp l us r = Qp l' us r := by
   intro us
   induction us with
   | nil => intro l l' h; simp at h
   | cons u us ih =>
    intro l l' hm
    obtain ⟨j, v⟩ := u
    rw [Q1L, Q1L]
    by_cases e : r = j
    ·subst e; simp
    ·rw [upd_ne _ _ e, upd_ne _ _ e]
     refine ih l l' ?_
     rw [Z16] at hm
     rcases Z13.1 hm with hm | hm
     ·exact absurd hm e
     ·exact hm
  exact this vs _ _ hv
 ·rw [Q3x _ vs hv]
  have : ∀ (us : List (Nat × LV Γ)) (l l' : Nat → LV Γ), l r = l' r → Qp l us r = Qp l' us r := by
   intro us
   induction us with
   | nil => intro l l' h; exact h
   | cons u us ih =>
    intro l l' hm
    obtain ⟨j, v⟩ := u
    rw [Q1L, Q1L]
    by_cases e : r = j
    ·subst e; simp
    ·rw [upd_ne _ _ e, upd_ne _ _ e]; exact ih l l' hm
  exact this us _ _ (Q3x _ vs hv).symm
theorem put_comm {st : St Γ} {d d' : Option Nat} {a a' : Act Γ} (h1 : ∀ t, d = some t → d' ≠ some t) (h2 : ∀ r ∈ a.upd.map (·.1), r ∉ a'.upd.map (·.1)) : (st.put d a).put d' a' = (st.put d' a').put d a := by
 have hl := updLoc_comm h2 st.loc
 cases d with
 | none => cases d' <;> simp [St.put, Q2T, hl]
 | some t =>
  cases d' with
  | none => simp [St.put, Q2T, hl]
  | some t' =>
   have : t ≠ t' := fun e => h1 t rfl (by rw [e])
   simp only [St.put, Q2T, hl]
   rw [List.set_comm _ _ this]
theorem puts_add {D : Nat → Bool} {i : Nat} {x : Rec} {a : Act Γ} : ∀ (tr : List (Rec × Act Γ)) (j k : Nat) (st : St Γ), tr[k]? = some (x, a) → j + k = i → D i = false →
  (∀ k' y b, k < k' → tr[k']? = some (y, b) → D (j + k') = true → (∀ t, x.dst = some t → y.dst ≠ some t) ∧ ∀ r ∈ a.upd.map (·.1), r ∉ b.upd.map (·.1)) →
  puts (fun q => D q || q.beq i) j tr st = (puts D j tr st).put x.dst a
 | [], j, k, st, h, _, _, _ => by simp at h
 | (y, b) :: tr, j, 0, st, h, hj, hD, hc => by
  cases h
  rw [Z31] at hj
  subst hj
  simp only [puts, hD, Bool.false_or, Nat.beq_refl, cond_true, cond_false]
  -- behind i the two sets are one
  have tail : ∀ (tr : List (Rec × Act Γ)) (m : Nat) (s : St Γ), j < m → (∀ k' y b, tr[k']? = some (y, b) → D (m + k') = true → (∀ t, x.dst = some t → y.dst ≠ some t) ∧ ∀ r ∈ a.upd.map (·.1), r ∉ b.upd.map (·.1)) → puts (fun q => D q || q.beq j) m tr (s.put x.dst a) = (puts D m tr s).put x.dst a := by
   intro tr
   induction tr with
   | nil => intro m s _ _; rfl
   | cons p tr ih =>
    intro m s hm hc
    obtain ⟨y, b⟩ := p
    have hne : m.beq j = false := by
     cases hb : m.beq j with
     | false => rfl
     | true => have := beq_eq hb; omega
    simp only [puts, hne, Bool.or_false]
    have hc' : ∀ k' y' b', tr[k']? = some (y', b') → D (m + 1 + k') = true → (∀ t, x.dst = some t → y'.dst ≠ some t) ∧ ∀ r ∈ a.upd.map (·.1), r ∉ b'.upd.map (·.1) := fun k' y' b' h1 h2 => hc (k' + 1) y' b' (by simpa using h1) (by rw [show m + (k' + 1) = m + 1 + k' by omega]; exact h2)
    cases hDm : D m with
    | false => exact ih (m + 1) s (by omega) hc'
    | true =>
     obtain ⟨h1, h2⟩ := hc 0 y b rfl hDm
     simp only [cond_true]
     rw [put_comm h1 h2]
     exact ih (m + 1) _ (by omega) hc'
  refine tail tr (j + 1) st (by omega) fun k' y' b' h1 h2 => hc (k' + 1) y' b' (by omega) (by simpa using h1) (by rw [show j + (k' + 1) = j + 1 + k' by omega]; exact h2)
 | (y, b) :: tr, j, k + 1, st, h, hj, hD, hc => by
  have hne : j.beq i = false := by
   cases hb : j.beq i with
   | false => rfl
   | true => have := beq_eq hb; omega
  simp only [puts, hne, Bool.or_false]
  exact puts_add tr (j + 1) k _ (by simpa using h) (by omega) hD fun k' y' b' h1 h2 h3 => hc (k' + 1) y' b' (by omega) (by simpa using h2) (by rw [show j + (k' + 1) = j + 1 + k' by omega]; exact h3)
structure Fact (c : Ctx Γ K β) (all : Array Oper) (nx i : Nat) (o : Oper) (st : St Γ) (x : Rec) (a : Act Γ) : Prop where
 ix : x.i = i
 dst : x.dst = o.dst
 lk : x.lk = o.looksAt all
 ids : x.ids = a.upd.map (·.1)
 edges : edgesOk i o = true
 keep : dstIn o.dst c.keep = false
 step : ((o.guard = none ∨ ∃ j want d, o.guard = some (j, want) ∧ dstOf all j = some d ∧ d ∈ x.lk ∧ st.get d = .bool want) ∧
   ∃ kk b, Q8 c (mask x.lk x.F st) (nx + 64 * i) o kk = some b ∧ ∀ kk', Q8 c (mask x.lk x.F st) (nx + 64 * i) o kk' = kk' a) ∨
  ((∃ j want d, o.guard = some (j, want) ∧ dstOf all j = some d ∧ d ∈ x.lk ∧ (st.get d = .tup [] ∨ st.get d = .bool (!want))) ∧ a = ⟨.tup [], []⟩)
inductive Tr (c : Ctx Γ K β) (all : Array Oper) (nx : Nat) : Nat → List Oper → List Rec → St Γ → List (Rec × Act Γ) → St Γ → Prop
 | nil {i recs st} : Tr c all nx i [] recs st [] st
 | cons {i o os recs st x a tr st'} (h : Fact c all nx i o st x a) (hanc : x.anc = ancOf recs o) (hok : okNew recs x = true) (k : Tr c all nx (i + 1) os (recs ++ [x]) (st.put o.dst a) tr st') : Tr c all nx i (o :: os) recs st ((x, a) :: tr) st'
theorem regionD_tr {P : Program} {c : Ctx Γ K β} (hty : TyOk P K c.X c.ty) (hG : ∀ f cal, c.G f = some cal → Con P K f cal) {all : Array Oper} {nx : Nat} : ∀ (os : List Oper) (i : Nat) (recs : List Rec) (st : St Γ) {kk : St Γ → Option β} {b : β}, st.nx = nx → Q1Y c all i os recs st kk = some b →
  ∃ tr st', st'.nx = nx ∧ Tr c all nx i os recs st tr st' ∧ ∀ kk' : St Γ → Option β, Q1Y c all i os recs st kk' = kk' st'
 | [], i, recs, st, kk, b, hnx, h => ⟨[], st, hnx, .nil, fun _ => rfl⟩
 | o :: os, i, recs, st, kk, b, hnx, h => by
  simp only [Q1Y] at h
  cases hkeep : dstIn o.dst c.keep with
  | true => rw [hkeep] at h; cases h
  | false =>
  rw [hkeep] at h; simp only [cond_false] at h
  replace h := Q0a h; obtain ⟨hedge, h⟩ := h
  generalize hlk : o.looksAt all = lk at h
  generalize hF : footOf st.loc o (lk.flatMap fun t => idsOf (st.get t)) = F at h
  generalize hanc : ancOf recs o = anc at h
  -- behind one operation
  have go : ∀ (a : Act Γ), (bif okNew recs ⟨i, o.dst, lk, F, a.upd.map (·.1), anc⟩ then Q1Y c all (i + 1) os (recs ++ [⟨i, o.dst, lk, F, a.upd.map (·.1), anc⟩]) (st.put o.dst a) kk else none) = some b → Fact c all nx i o st ⟨i, o.dst, lk, F, a.upd.map (·.1), anc⟩ a →
    ∃ tr st', st'.nx = nx ∧ Tr c all nx i (o :: os) recs st tr st' ∧ ∀ kk' : St Γ → Option β, (bif okNew recs ⟨i, o.dst, lk, F, a.upd.map (·.1), anc⟩ then Q1Y c all (i + 1) os (recs ++ [⟨i, o.dst, lk, F, a.upd.map (·.1), anc⟩]) (st.put o.dst a) kk' else none) = kk' st' := by
   intro a h hf
   replace h := Q0a h; obtain ⟨hok, h⟩ := h
   obtain ⟨tr, st', h1, h2, h3⟩ := regionD_tr (nx := nx) hty hG os (i + 1) _ (st.put o.dst a) hnx h
   exact ⟨_, st', h1, .cons hf hanc.symm hok h2, fun kk' => by rw [hok]; exact h3 kk'⟩
  have yes : (o.guard = none ∨ ∃ j want d, o.guard = some (j, want) ∧ dstOf all j = some d ∧ d ∈ lk ∧ st.get d = .bool want) → Q8 c (mask lk F st) (st.nx + 64 * i) o (fun a => bif okNew recs ⟨i, o.dst, lk, F, a.upd.map (·.1), anc⟩ then Q1Y c all (i + 1) os (recs ++ [⟨i, o.dst, lk, F, a.upd.map (·.1), anc⟩]) (st.put o.dst a) kk else none) = some b →
    ∃ tr st', st'.nx = nx ∧ Tr c all nx i (o :: os) recs st tr st' ∧ ∀ kk' : St Γ → Option β, Q8 c (mask lk F st) (st.nx + 64 * i) o (fun a => bif okNew recs ⟨i, o.dst, lk, F, a.upd.map (·.1), anc⟩ then Q1Y c all (i + 1) os (recs ++ [⟨i, o.dst, lk, F, a.upd.map (·.1), anc⟩]) (st.put o.dst a) kk' else none) = kk' st' := by
   intro hg h
   obtain ⟨act, h1, _⟩ := Q4u (P := P) (w0 := default) (L0 := ⟨[], fun _ => False, fun _ => none⟩) hty hG h
   have h' := h
   rw [h1] at h
   obtain ⟨tr, st', h2, h3, h4⟩ := go act h ⟨rfl, rfl, hlk.symm, rfl, hedge, hkeep, .inl ⟨hg, _, _, by rw [← hnx]; exact h', fun kk' => by rw [← hnx]; exact h1 kk'⟩⟩
   exact ⟨tr, st', h2, h3, fun kk' => by rw [h1]; exact h4 kk'⟩
  have unfoldR : ∀ kk' : St Γ → Option β, Q1Y c all i (o :: os) recs st kk' = (match o.guard with
   | none => Q8 c (mask lk F st) (st.nx + 64 * i) o (fun a => bif okNew recs ⟨i, o.dst, lk, F, a.upd.map (·.1), anc⟩ then Q1Y c all (i + 1) os (recs ++ [⟨i, o.dst, lk, F, a.upd.map (·.1), anc⟩]) (st.put o.dst a) kk' else none)
   | some (j, want) => match dstOf all j with
     | none => none
     | some d => bif memN d lk then (match st.get d with
       | .tup [] => (bif okNew recs ⟨i, o.dst, lk, F, [], anc⟩ then Q1Y c all (i + 1) os (recs ++ [⟨i, o.dst, lk, F, [], anc⟩]) (st.put o.dst ⟨.tup [], []⟩) kk' else none)
       | .bool b =>
         bif b then (bif want then Q8 c (mask lk F { st with slots := st.slots.set d (.bool true) }) (st.nx + 64 * i) o (fun a => bif okNew recs ⟨i, o.dst, lk, F, a.upd.map (·.1), anc⟩ then Q1Y c all (i + 1) os (recs ++ [⟨i, o.dst, lk, F, a.upd.map (·.1), anc⟩]) (({ st with slots := st.slots.set d (.bool true) } : St Γ).put o.dst a) kk' else none)
          else (bif okNew recs ⟨i, o.dst, lk, F, [], anc⟩ then Q1Y c all (i + 1) os (recs ++ [⟨i, o.dst, lk, F, [], anc⟩]) (({ st with slots := st.slots.set d (.bool true) } : St Γ).put o.dst ⟨.tup [], []⟩) kk' else none))
         else (bif want then (bif okNew recs ⟨i, o.dst, lk, F, [], anc⟩ then Q1Y c all (i + 1) os (recs ++ [⟨i, o.dst, lk, F, [], anc⟩]) (({ st with slots := st.slots.set d (.bool false) } : St Γ).put o.dst ⟨.tup [], []⟩) kk' else none)
          else Q8 c (mask lk F { st with slots := st.slots.set d (.bool false) }) (st.nx + 64 * i) o (fun a => bif okNew recs ⟨i, o.dst, lk, F, a.upd.map (·.1), anc⟩ then Q1Y c all (i + 1) os (recs ++ [⟨i, o.dst, lk, F, a.upd.map (·.1), anc⟩]) (({ st with slots := st.slots.set d (.bool false) } : St Γ).put o.dst a) kk' else none))
       | _ => none) else none) := by
   intro kk'
   rw [← hanc, ← hF, ← hlk]
   simp only [Q1Y, hkeep, cond_false, hedge, cond_true]
   rfl
  have hU := unfoldR kk
  have h : Q1Y c all i (o :: os) recs st kk = some b := by
   rw [hU]
   rw [← h]
   rfl
  rw [hU] at h
  cases hg : o.guard with
  | none =>
   rw [hg] at h
   obtain ⟨tr, st', h1, h2, h3⟩ := yes (.inl hg) h
   exact ⟨tr, st', h1, h2, fun kk' => by rw [unfoldR, hg]; exact h3 kk'⟩
  | some jw =>
   obtain ⟨j, want⟩ := jw
   rw [hg] at h; simp only at h
   cases hd : dstOf all j with
   | none => rw [hd] at h; cases h
   | some d =>
    rw [hd] at h; simp only at h
    replace h := Q0a h; obtain ⟨hm, h⟩ := h
    have hmem := Q2x.1 hm
    cases hv : st.get d with
    | tup vs =>
     cases vs with
     | cons v vs => rw [hv] at h; cases h
     | nil =>
      rw [hv] at h; simp only at h
      obtain ⟨tr, st', h1, h2, h3⟩ := go ⟨.tup [], []⟩ h ⟨rfl, rfl, hlk.symm, rfl, hedge, hkeep, .inr ⟨⟨j, want, d, hg, hd, hmem, .inl hv⟩, rfl⟩⟩
      exact ⟨tr, st', h1, h2, fun kk' => by rw [unfoldR, hg]; simp only [hd, hm, cond_true, hv]; exact h3 kk'⟩
    | bool t =>
     rw [hv] at h; simp only at h
     cases t with
     | true =>
      have es : ({ st with slots := st.slots.set d (.bool true) } : St Γ) = st := set_get hv (by simp)
      simp only [cond_true, es] at h
      cases want with
      | true =>
       simp only [cond_true] at h
       obtain ⟨tr, st', h1, h2, h3⟩ := yes (.inr ⟨j, true, d, hg, hd, hmem, hv⟩) h
       exact ⟨tr, st', h1, h2, fun kk' => by rw [unfoldR, hg]; simp only [hd, hm, cond_true, hv, es]; exact h3 kk'⟩
      | false =>
       simp only [cond_false] at h
       obtain ⟨tr, st', h1, h2, h3⟩ := go ⟨.tup [], []⟩ h ⟨rfl, rfl, hlk.symm, rfl, hedge, hkeep, .inr ⟨⟨j, false, d, hg, hd, hmem, .inr hv⟩, rfl⟩⟩
       exact ⟨tr, st', h1, h2, fun kk' => by rw [unfoldR, hg]; simp only [hd, hm, cond_true, cond_false, hv, es]; exact h3 kk'⟩
     | false =>
      have es : ({ st with slots := st.slots.set d (.bool false) } : St Γ) = st := set_get hv (by simp)
      simp only [cond_false, es] at h
      cases want with
      | true =>
       simp only [cond_true] at h
       obtain ⟨tr, st', h1, h2, h3⟩ := go ⟨.tup [], []⟩ h ⟨rfl, rfl, hlk.symm, rfl, hedge, hkeep, .inr ⟨⟨j, true, d, hg, hd, hmem, .inr hv⟩, rfl⟩⟩
       exact ⟨tr, st', h1, h2, fun kk' => by rw [unfoldR, hg]; simp only [hd, hm, cond_true, cond_false, hv, es]; exact h3 kk'⟩
      | false =>
       simp only [cond_false] at h
       obtain ⟨tr, st', h1, h2, h3⟩ := yes (.inr ⟨j, false, d, hg, hd, hmem, hv⟩) h
       exact ⟨tr, st', h1, h2, fun kk' => by rw [unfoldR, hg]; simp only [hd, hm, cond_true, cond_false, hv, es]; exact h3 kk'⟩
    | _ => rw [hv] at h; cases h
end Go.Ev
/- Regions that draw their order: whatever the order. -/
namespace Go.Ev
variable {Γ : TypeId → Type} {K : Cod Γ} {β : Type}
theorem puts_congr {D D' : Nat → Bool} : ∀ (tr : List (Rec × Act Γ)) (i : Nat) (st : St Γ), (∀ k, k < tr.length → D (i + k) = D' (i + k)) → puts D i tr st = puts D' i tr st
 | [], _, _, _ => rfl
 | (x, a) :: tr, i, st, h => by
  simp only [puts]
  have h0 := h 0 (by simp)
  rw [Z31] at h0
  rw [h0]
  exact puts_congr tr (i + 1) _ fun k hk => by have := h (k + 1) (by simpa using hk); rw [show i + (k + 1) = i + 1 + k by omega] at this; exact this
theorem puts_none {D : Nat → Bool} : ∀ (tr : List (Rec × Act Γ)) (i : Nat) (st : St Γ), (∀ k, k < tr.length → D (i + k) = false) → puts D i tr st = st
 | [], _, _, _ => rfl
 | (x, a) :: tr, i, st, h => by
  simp only [puts]
  have h0 := h 0 (by simp)
  rw [Z31] at h0
  rw [h0]
  exact puts_none tr (i + 1) _ fun k hk => by have := h (k + 1) (by simpa using hk); rw [show i + (k + 1) = i + 1 + k by omega] at this; exact this
theorem blt_iff {a b : Nat} : Nat.blt a b = true ↔ a < b := by simp [Nat.blt_eq]
theorem blt_false {a b : Nat} (h : ¬ a < b) : Nat.blt a b = false := by
 cases hb : Nat.blt a b with
 | false => rfl
 | true => exact absurd (blt_iff.1 hb) h
theorem Tr.facts {c : Ctx Γ K β} {all : Array Oper} {nx : Nat} {i : Nat} {os : List Oper} {recs : List Rec} {st : St Γ} {tr : List (Rec × Act Γ)} {st' : St Γ} (h : Tr c all nx i os recs st tr st') :
  tr.length = os.length ∧ st' = puts (fun _ => true) i tr st ∧ ∀ (k : Nat) (x : Rec) (a : Act Γ) (o : Oper), tr[k]? = some (x, a) → os[k]? = some o →
   Fact c all nx (i + k) o (puts (fun q => Nat.blt q (i + k)) i tr st) x a ∧ x.anc = ancOf (recs ++ (tr.take k).map (·.1)) o ∧ okNew (recs ++ (tr.take k).map (·.1)) x = true := by
 induction h with
 | nil => exact ⟨rfl, rfl, fun k x a o h => by simp at h⟩
 | cons h hanc hok k ih =>
  rename_i i o os recs st x a tr st'
  obtain ⟨h1, h2, h3⟩ := ih
  refine ⟨by simp [h1], by rw [h2]; simp only [puts, cond_true, h.dst], fun k y b o' hy ho => ?_⟩
  cases k with
  | zero =>
   cases hy; cases ho
   have e : puts (fun q => Nat.blt q (i + 0)) i ((x, a) :: tr) st = st := puts_none _ i st fun k _ => blt_false (by omega)
   rw [e]
   simpa using ⟨h, hanc, hok⟩
  | succ k =>
   have := h3 k y b o' (by simpa using hy) (by simpa using ho)
   have e : puts (fun q => Nat.blt q (i + (k + 1))) i ((x, a) :: tr) st = puts (fun q => Nat.blt q (i + 1 + k)) (i + 1) tr (st.put x.dst a) := by
    simp only [puts]
    rw [blt_iff.2 (by omega : i < i + (k + 1)), show i + (k + 1) = i + 1 + k by omega]
    rfl
   rw [e, show i + (k + 1) = i + 1 + k by omega, h.dst]
   simpa using this
def ND (nx : Nat) (D : Nat → Bool) (r : Nat) : Prop := r < nx ∨ ∃ k, D k = true ∧ nx + 64 * k ≤ r ∧ r < nx + 64 * k + 64
theorem disjO_spec {d : Option Nat} {l : List Nat} (h : disjO d l = true) {t : Nat} (ht : t ∈ l) : d ≠ some t := by
 intro e; subst e
 simp only [disjO] at h
 rw [Q2x.2 ht] at h; cases h
theorem apartO_spec {d d' : Option Nat} (h : apartO d d' = true) (t : Nat) (h1 : d = some t) : d' ≠ some t := by
 intro h2; subst h1; subst h2
 simp [apartO] at h
theorem mask_le {st st' : St Γ} {lk F : List Nat} (h1 : ∀ t ∈ lk, st'.get t = st.get t) (h2 : ∀ r ∈ F, st'.loc r = st.loc r) : Le (mask lk F st) st' := by
 refine ⟨fun x => ?_, fun r => ?_⟩
 ·cases x with
  | tmp t =>
   show (mask lk F st).get t = .undef ∨ st'.get t = (mask lk F st).get t
   have e : (mask lk F st).get t = if t < st.slots.length then (bif memN t lk then st.get t else .undef) else .undef := by
    show ((List.range st.slots.length).map fun t => bif memN t lk then st.slots.getD t .undef else .undef).getD t .undef = _
    rw [Z9, Z11]
    split
    ·rename_i h; rw [List.getElem?_range h]; rfl
    ·rename_i h; rw [Z21 (by rw [Z42]; exact Nat.le_of_not_lt h)]; rfl
   rw [e]
   split
   ·cases hm : memN t lk with
    | false => exact .inl rfl
    | true => exact .inr (h1 t (Q2x.1 hm))
   ·exact .inl rfl
  | const v => exact .inr rfl
  | func f => exact .inr rfl
  | global g => exact .inl rfl
 ·show maskL F st.loc r = .dead ∨ st'.loc r = maskL F st.loc r
  unfold maskL
  cases hm : memN r F with
  | false => exact .inl rfl
  | true => exact .inr (h2 r (Q2x.1 hm))
theorem filter_lt {p p' : Nat → Bool} {i : Nat} (h : ∀ k, p' k = (p k && !(k.beq i))) : ∀ {l : List Nat}, i ∈ l → p i = true → (l.filter p').length < (l.filter p).length
 | [], hi, _ => by cases hi
 | x :: xs, hi, hp => by
  have hle : ∀ xs : List Nat, (xs.filter p').length ≤ (xs.filter p).length := by
   intro xs
   induction xs with
   | nil => exact Z7 _
   | cons y ys ih =>
    rw [Z32, Z32, h y]
    cases p y with
    | false => simpa using ih
    | true => cases hb : (!(y.beq i)) <;> simp <;> omega
  rw [Z32, Z32, h x]
  by_cases e : x = i
  ·subst e
   simp only [hp, Nat.beq_refl, Z12, Z98, Z77, if_false, if_true, Z2]
   have := hle xs
   omega
  ·have hb : x.beq i = false := by
    cases hb : x.beq i with
    | false => rfl
    | true => exact absurd (beq_eq hb) e
   have hi' : i ∈ xs := (Z13.1 hi).resolve_left fun e' => e e'.symm
   have ih := filter_lt h hi' hp
   rw [hb]
   cases p x with
   | false => simpa using ih
   | true => simpa using ih
section
variable {P : Program} {c : Ctx Γ K β} {w0 : World} {L0 : Fm} {all : Array Oper} {nx : Nat} {st0 st' : St Γ} {tr : List (Rec × Act Γ)}
theorem ready_mem {listed : Array Bool} {i : Nat} : i ∈ Region.ready .any all listed ↔ i < all.size ∧ listed.getD i true = false ∧ ∃ o, all[i]? = some o ∧ ∀ e ∈ o.after.toList, Region.binds .any e = true → listed.getD e.on false = true := by
 unfold Region.ready
 rw [Z73, Z50, Z4]
 constructor
 ·rintro ⟨h1, h2, h3⟩
  refine ⟨h1, by simpa using h2, ?_⟩
  cases ho : all[i]? with
  | none => rw [ho] at h3; cases h3
  | some o =>
   rw [ho] at h3
   refine ⟨o, rfl, fun e he hb => ?_⟩
   simp only [Z47, Z41] at h3
   have := (Array.all_eq_true_iff_forall_mem.1 h3) e (by simpa using he)
   rw [hb] at this; simpa using this
 ·rintro ⟨h1, h2, o, ho, h3⟩
  refine ⟨h1, by simp [h2], ?_⟩
  rw [ho]
  simp only [Z47, Z41]
  refine Array.all_eq_true_iff_forall_mem.2 fun e he => ?_
  cases hb : Region.binds .any e with
  | false => rfl
  | true => simpa using h3 e (by simpa using he) hb
theorem bitN_eq (m i : Nat) : bitN m i = m.testBit i := by
 unfold bitN Nat.testBit
 show (1 &&& (m >>> i)).beq 1 = _
 have h : 1 &&& (m >>> i) = 0 ∨ 1 &&& (m >>> i) = 1 := by
  rw [Nat.and_comm, Nat.and_one_is_mod]; omega
 rcases h with h | h <;> rw [h] <;> rfl
theorem ancOf_spec {recs : List Rec} {o : Oper} {D : Nat → Bool} (h1 : ∀ e ∈ o.after.toList, Region.binds .any e = true → D e.on = true) (h2 : ∀ r ∈ recs, D r.i = true → ∀ j, bitN r.anc j = true → D j = true) : ∀ j, bitN (ancOf recs o) j = true → D j = true := by
 intro j hj
 unfold ancOf at hj
 revert h1 hj
 generalize o.after.toList = es
 intro h1 hj
 induction es with
 | nil => rw [bitN_eq] at hj; simp at hj
 | cons e es ih =>
  rw [List.foldr_cons] at hj
  cases hb : Region.binds .any e with
  | false =>
   rw [hb] at hj
   exact ih (fun e he => h1 e (Z57 _ he)) hj
  | true =>
   rw [hb] at hj
   simp only [cond_true] at hj
   rw [bitN_eq] at hj
   have hj : ((1 <<< e.on ||| ancAt recs e.on) ||| (es.foldr (fun e m => bif Region.binds .any e then Nat.lor (Nat.lor (Nat.shiftLeft 1 e.on) (ancAt recs e.on)) m else m) 0)).testBit j = true := hj
   rw [Nat.testBit_or, Nat.testBit_or, Bool.or_eq_true, Bool.or_eq_true] at hj
   rcases hj with (hj | hj) | hj
   ·rw [Nat.one_shiftLeft, Nat.testBit_two_pow, decide_eq_true_eq] at hj
    rw [← hj]; exact h1 e Z43 hb
   ·unfold ancAt at hj
    split at hj
    ·rename_i r hr
     have h3 := List.find?_some hr
     have h4 := List.mem_of_find?_eq_some hr
     exact h2 r h4 (by rw [beq_eq h3]; exact h1 e Z43 hb) j (by rw [bitN_eq]; exact hj)
    ·simp at hj
   ·exact ih (fun e he => h1 e (Z57 _ he)) (by rw [bitN_eq]; exact hj)
theorem draw_any (hty : TyOk P K c.X c.ty) (hG : ∀ f cal, c.G f = some cal → Con P K f cal) (hpar : ∀ i v, L0.par i = some v → memN i c.keep = true) (hT : Tr c all nx 0 all.toList [] st0 tr st') {Q : Exit → Go.Act → World → Prop} (hQ : ∀ a w, SRB K w0 L0 (nx + 64 * all.size) st' a w → Q .normal a w) :
  ∀ (fuel : Nat) (listed : Array Bool) (a : Go.Act) (w : World), listed.size = all.size → (∀ (k : Nat) (x : Rec) (b : Act Γ), tr[k]? = some (x, b) → listed.getD k false = true → ∀ j, bitN x.anc j = true → listed.getD j false = true) →
   ((List.range all.size).filter fun k => !(listed.getD k false)).length ≤ fuel → SR K w0 L0 (ND nx fun k => listed.getD k false) (puts (fun k => listed.getD k false) 0 tr st0) a w → wpAny P .any all Q fuel listed a w := by
 obtain ⟨hlen, hst', hfacts⟩ := hT.facts
 have hlen' : tr.length = all.size := by rw [hlen]; simp
 have hfact : ∀ (k : Nat) (o : Oper), all[k]? = some o → ∃ x b, tr[k]? = some (x, b) ∧ Fact c all nx k o (puts (fun q => Nat.blt q k) 0 tr st0) x b ∧ x.anc = ancOf ((tr.take k).map (·.1)) o ∧ okNew ((tr.take k).map (·.1)) x = true := by
  intro k o ho
  have hk : k < tr.length := by
   rw [hlen']
   rcases Z34 k all.size with h | h
   ·exact h
   ·rw [Array.getElem?_eq_none h] at ho; cases ho
  have := hfacts k tr[k].1 tr[k].2 o (Z3 hk) (by simpa using ho)
  simp only [Z25, Z40] at this
  exact ⟨_, _, Z3 hk, this⟩
 have hix : ∀ (k : Nat) (x : Rec) (b : Act Γ), tr[k]? = some (x, b) → x.i = k ∧ x.ids = b.upd.map (·.1) := by
  intro k x b hk
  have hlt : k < all.size := by
   rw [← hlen']
   rcases Z34 k tr.length with h | h
   ·exact h
   ·rw [Z21 h] at hk; cases hk
  obtain ⟨x', b', h1, h2, _⟩ := hfact k all[k] (Z79 hlt)
  rw [hk] at h1; cases h1
  exact ⟨h2.ix, h2.ids⟩
 have inside : ∀ (listed : Array Bool) (k : Nat), listed.size = all.size → listed.getD k false = true → k < all.size := by
  intro listed k hs hk
  rcases Z34 k listed.size with h | h
  ·rw [← hs]; exact h
  ·rw [Z51, Array.getElem?_eq_none h] at hk; cases hk
 -- all are done
 have hall : ∀ (listed : Array Bool) (a : Go.Act) (w : World), listed.size = all.size → (∀ k, k < all.size → listed.getD k false = true) → SR K w0 L0 (ND nx fun k => listed.getD k false) (puts (fun k => listed.getD k false) 0 tr st0) a w → Q .normal a w := by
  intro listed a w hs hal hS
  refine hQ a w ?_
  rw [hst']
  have e : puts (fun k => listed.getD k false) 0 tr st0 = puts (fun _ => true) 0 tr st0 := puts_congr tr 0 st0 fun k hk => by
   rw [Z25]; exact hal k (by rw [← hlen']; exact hk)
  rw [e] at hS
  refine SR.mono hS fun r hr => ?_
  rcases hr with h | ⟨k, h1, h2, h3⟩
  ·show r < _; omega
  ·have := inside listed k hs h1
   show r < _; omega
 -- what is not done yet has a first
 have hready : ∀ (listed : Array Bool), listed.size = all.size → Region.ready .any all listed = [] → ∀ k, k < all.size → listed.getD k false = true := by
  intro listed hs hr k
  induction k using Nat.strongRecOn with
  | _ k ih =>
   intro hk
   cases hl : listed.getD k false with
   | true => rfl
   | false =>
    exfalso
    have ho : all[k]? = some all[k] := Z79 hk
    obtain ⟨x, b, h1, h2, _⟩ := hfact k _ ho
    have hm : k ∈ Region.ready .any all listed := by
     refine ready_mem.2 ⟨hk, ?_, all[k], ho, fun e he hb => ?_⟩
     ·have hk' : k < listed.size := by rw [hs]; exact hk
      rw [Z51, Z79 hk'] at hl ⊢
      simpa using hl
     ·have := Z49.1 h2.edges e he
      rw [hb] at this
      simp only [Z12, Bool.false_or] at this
      have hlt := blt_iff.1 this
      exact ih e.on hlt (by omega)
    rw [hr] at hm; cases hm
 intro fuel
 induction fuel with
 | zero =>
  intro listed a w hs hdc hcount hS
  have hal : ∀ k, k < all.size → listed.getD k false = true := by
   intro k hk
   have h0 : (List.range all.size).filter (fun k => !(listed.getD k false)) = [] := Z69 (by omega)
   have := List.filter_eq_nil_iff.1 h0 k (Z50.2 hk)
   simpa using this
  refine ⟨?_, hall listed a w hs hal hS⟩
  cases hr : Region.ready .any all listed with
  | nil => rfl
  | cons i is =>
   have hi : i ∈ Region.ready .any all listed := by rw [hr]; simp
   obtain ⟨h1, h2, _⟩ := ready_mem.1 hi
   have h3 := hal i h1
   have hi' : i < listed.size := by rw [hs]; exact h1
   rw [Z51, Z79 hi'] at h2 h3
   simp only [Z41] at h2 h3
   rw [h2] at h3; cases h3
 | succ fuel ih =>
  intro listed a w hs hdc hcount hS
  refine ⟨fun hr => hall listed a w hs (hready listed hs hr) hS, fun i hi => ?_⟩
  obtain ⟨hi1, hi2, o, ho, hafter⟩ := ready_mem.1 hi
  have hiL : i < listed.size := by rw [hs]; exact hi1
  have hDi : listed.getD i false = false := by
   rw [Z51, Z79 hiL] at hi2 ⊢
   simpa using hi2
  obtain ⟨x, b, htr, hf, hanc, hok⟩ := hfact i o ho
  -- what i hangs on is done
  have hancD : ∀ j, bitN x.anc j = true → listed.getD j false = true := by
   rw [hanc]
   refine ancOf_spec (D := fun k => listed.getD k false) hafter fun r hr hri j hj => ?_
   obtain ⟨p, hp, rfl⟩ := Z18.1 hr
   obtain ⟨k, hk⟩ := List.mem_iff_getElem?.1 hp
   rw [Z55] at hk
   split at hk
   ·have := (hix k p.1 p.2 hk).1
    rw [this] at hri
    exact hdc k p.1 p.2 hk hri j hj
   ·cases hk
  -- an operation that is out of order is apart
  have hind : ∀ (k : Nat) (y : Rec) (d : Act Γ), tr[k]? = some (y, d) → (Nat.blt k i ≠ listed.getD k false) → disjO y.dst x.lk = true ∧ disj y.ids x.F = true ∧ (i < k → apartO x.dst y.dst = true ∧ disj x.ids y.ids = true) := by
   intro k y d hk hne
   have hkn : k ≠ i := by
    intro e; subst e
    rw [hDi, blt_false (by omega)] at hne; exact hne rfl
   rcases Z34 k i with hlt | hge
   ·have hu : listed.getD k false = false := by
     rw [blt_iff.2 hlt] at hne
     cases h : listed.getD k false with
     | false => rfl
     | true => rw [h] at hne; exact absurd rfl hne
    have := Z49.1 hok y (Z18.2 ⟨(y, d), List.mem_iff_getElem?.2 ⟨k, by rw [Z55, if_pos hlt]; exact hk⟩, rfl⟩)
    rw [(hix k y d hk).1] at this
    have hnm : bitN x.anc k = false := by
     cases hm : bitN x.anc k with
     | false => rfl
     | true => rw [hancD k hm] at hu; cases hu
    rw [hnm, Bool.false_or] at this
    simp only [indep, Z4] at this
    exact ⟨this.1.1.1.1.1, this.1.1.2, fun h => by omega⟩
   ·have hgt : i < k := by omega
    have hu : listed.getD k false = true := by
     rw [blt_false (by omega)] at hne
     cases h : listed.getD k false with
     | true => rfl
     | false => rw [h] at hne; exact absurd rfl hne
    have hklt : k < all.size := inside listed k hs hu
    obtain ⟨y', d', h1, h2, h3, h4⟩ := hfact k all[k] (Z79 hklt)
    rw [hk] at h1; cases h1
    have := Z49.1 h4 x (Z18.2 ⟨(x, b), List.mem_iff_getElem?.2 ⟨i, by rw [Z55, if_pos hgt]; exact htr⟩, rfl⟩)
    rw [(hix i x b htr).1] at this
    have hnm : bitN y.anc i = false := by
     cases hm : bitN y.anc i with
     | false => rfl
     | true => rw [hdc k y d hk hu i hm] at hDi; cases hDi
    rw [hnm, Bool.false_or] at this
    simp only [indep, Z4] at this
    exact ⟨this.1.1.1.1.2, this.1.2, fun _ => ⟨this.1.1.1.2, this.2⟩⟩
  -- the two states agree on what i looks at
  have hget : ∀ t ∈ x.lk, (puts (fun k => listed.getD k false) 0 tr st0).get t = (puts (fun q => Nat.blt q i) 0 tr st0).get t := fun t ht =>
   (puts_get tr 0 st0 st0 rfl rfl fun k y d hk => by
    rw [Z25]
    by_cases e : listed.getD k false = Nat.blt k i
    ·exact .inl e
    ·exact .inr (disjO_spec (hind k y d hk (fun e' => e e'.symm)).1 ht)).1
  have hloc : ∀ r ∈ x.F, (puts (fun k => listed.getD k false) 0 tr st0).loc r = (puts (fun q => Nat.blt q i) 0 tr st0).loc r := fun r hr =>
   puts_loc tr 0 st0 st0 rfl fun k y d hk => by
    rw [Z25]
    by_cases e : listed.getD k false = Nat.blt k i
    ·exact .inl e
    ·refine .inr fun hm => ?_
     rw [← (hix k y d hk).2] at hm
     exact Q3w (hind k y d hk (fun e' => e e'.symm)).2.1 r hm hr
  have hle := mask_le hget hloc
  -- behind it
  have hadd : puts (fun k => (listed.setIfInBounds i true).getD k false) 0 tr st0 = (puts (fun k => listed.getD k false) 0 tr st0).put o.dst b := by
   have e : (fun k => (listed.setIfInBounds i true).getD k false) = fun q => (fun k => listed.getD k false) q || q.beq i := by
    funext k
    show _ = (listed.getD k false || k.beq i)
    rw [Z51, Z51, Array.getElem?_setIfInBounds]
    by_cases h : i = k
    ·subst h
     simp [hiL]
    ·have hb : k.beq i = false := by
      cases hb : k.beq i with
      | false => rfl
      | true => exact absurd (beq_eq hb).symm h
     simp [h, hb]
   rw [e, ← hf.dst]
   refine puts_add tr 0 i st0 htr (by omega) hDi fun k y d hik hk hDk => ?_
   rw [Z25] at hDk
   obtain ⟨_, _, h3⟩ := hind k y d hk (by rw [blt_false (by omega)]; simp [hDk])
   obtain ⟨h4, h5⟩ := h3 hik
   rw [(hix i x b htr).2, (hix k y d hk).2] at h5
   exact ⟨fun t ht => apartO_spec h4 t ht, fun r hr => Q3w h5 r hr⟩
  have hnext : ∀ a' w', SR K w0 L0 (fun r => ND nx (fun k => listed.getD k false) r ∨ (nx + 64 * i ≤ r ∧ r < nx + 64 * i + 64)) ((puts (fun k => listed.getD k false) 0 tr st0).put o.dst b) a' w' → wpAny P .any all Q fuel (listed.setIfInBounds i true) a' w' := by
   intro a' w' hS'
   have hget' : ∀ k, (listed.setIfInBounds i true).getD k false = true ↔ listed.getD k false = true ∨ k = i := by
    intro k
    rw [Z51, Z51, Array.getElem?_setIfInBounds]
    by_cases h : i = k
    ·subst h; simp [hiL]
    ·simp [h]; exact fun e => absurd e.symm h
   refine ih _ a' w' (by simp [hs]) (fun k y d hk hk2 j hj => ?_) ?_ ?_
   ·rw [hget']
    rcases (hget' k).1 hk2 with h | h
    ·exact .inl (hdc k y d hk h j hj)
    ·subst h
     rw [htr] at hk; cases hk
     exact .inl (hancD j hj)
   ·have := filter_lt (p := fun k => !(listed.getD k false)) (p' := fun k => !((listed.setIfInBounds i true).getD k false)) (i := i) (fun k => by
     rw [Z51, Z51, Array.getElem?_setIfInBounds]
     by_cases h : i = k
     ·subst h; simp [hiL]
     ·have hb : k.beq i = false := by
       cases hb : k.beq i with
       | false => rfl
       | true => exact absurd (beq_eq hb).symm h
      simp [h, hb]) (Z50.2 hi1) (by simp [hDi])
    omega
   ·rw [hadd]
    refine SR.mono hS' fun r hr => ?_
    rcases hr with hr | hr
    ·rcases hr with hr | ⟨k, h1, h2⟩
     ·exact .inl hr
     ·exact .inr ⟨k, (hget' k).2 (.inl h1), h2⟩
    ·exact .inr ⟨i, (hget' i).2 (.inr rfl), hr⟩
  have hdst : ∀ d, o.dst = some d → L0.par d = none := by
   intro d he
   have hk := hf.keep
   rw [he] at hk
   cases hp : L0.par d with
   | none => rfl
   | some v => simp only [dstIn, hpar d v hp] at hk; cases hk
  unfold wpOp
  rw [ho]
  simp only
  rcases hf.step with ⟨hg, kk, bb, he, hnat⟩ | ⟨⟨j, want, d, hg, hd, hdl, hv⟩, hb⟩
  ·-- carried out
   have hw : Region.wanted o (yielded all a.tmps) = true := by
    rcases hg with hg | ⟨j, want, d, hg, hd, hdl, hv⟩
    ·simp [Region.wanted, hg]
    ·rw [← hget d hdl] at hv
     simp [Region.wanted, hg, (Q35 hS hd).2 _ hv]
   rw [if_pos hw]
   left
   have hmono := evalOp_mono (P := P) hG hle he
   have he' : Q8 c (puts (fun k => listed.getD k false) 0 tr st0) (nx + 64 * i) o kk = some bb := by rw [hmono]; exact he
   obtain ⟨act', h1, h2⟩ := Q4u (P := P) (w0 := w0) (L0 := L0) hty hG he'
   have hact : act' = b := by
    classical
    have e1 : ∀ kk' : Act Γ → Option β, kk' act' = kk' b := fun kk' => ((h1 kk').symm.trans (hmono kk')).trans (hnat kk')
    have := e1 fun z => if z = b then some bb else none
    simp only at this
    split at this
    ·assumption
    ·simp at this
   subst hact
   exact h2 _ a w hS (fun r h1 h2 hN => by
    rcases hN with hN | ⟨k, hk, h3, h4⟩
    ·omega
    ·have hki : k ≠ i := fun e => by subst e; have hk : listed.getD k false = true := hk; rw [hDi] at hk; cases hk
     rcases Z34 k i with h | h
     ·omega
     ·omega) hdst _ Q hnext
  ·-- skipped
   have hw : Region.wanted o (yielded all a.tmps) = false := by
    rw [← hget d hdl] at hv
    rcases hv with hv | hv
    ·simp [Region.wanted, hg, (Q35 hS hd).1 hv]
    ·rw [Region.wanted, hg]
     simp only [(Q35 hS hd).2 _ hv]
     cases want <;> rfl
   rw [hw]
   simp only [Z77, if_false]
   refine hnext _ w ?_
   rw [hb]
   obtain ⟨R, M, own, hN, hx⟩ := hS
   refine SR.mono (N := R.N) ⟨R, M, own, rfl, hx.upd (Qh.refl R) (fun _ _ => rfl) ⟨.tup [], []⟩ hx.hl hx.locs hx.fr (fun _ h => .inl h) o.dst hdst (.tup (xs := []) (vs := []) .nil)⟩ fun r hr => .inl (by rw [hN] at hr; exact hr)
end
end Go.Ev
namespace Go.Ev
variable {Γ : TypeId → Type} {K : Cod Γ} {β : Type}
theorem SR.world {w0 : World} {L0 : Fm} {N : Nat → Prop} {st : St Γ} {a : Go.Act} {w w' : World} (h : SR K w0 L0 N st a w) (hh : w'.heap = w.heap) (h1 : w'.os = w.os) (h2 : w'.tape = w.tape) (h3 : w'.output = w.output) (h4 : w.drawn ≤ w'.drawn) : SR K w0 L0 N st a w' := by
 obtain ⟨R, M, own, hN, hx⟩ := h
 have hs : Same R.A w w' := fun b _ => by rw [hh]
 refine ⟨R, M, own, hN, hx.hl, hx.size, fun t => (hx.slots t).move (Qh.refl R) hs, ⟨fun i => (hx.locs.lr i).move (Qh.refl R) hs fun _ b _ => by rw [hh], hx.locs.own, hx.locs.nodup, fun i hi b hb => by rw [hh]; exact hx.locs.lt i hi b hb, fun b hb => by rw [hh]; exact hx.locs.alt b hb⟩, hx.defers, ?_, hx.up, hx.dn, hx.par⟩
 exact hx.fr.step h1 h2 h3 h4 (by rw [hh]; exact Z7 _) fun b _ _ => by rw [hh]
theorem regionD_sound {P : Program} {c : Ctx Γ K β} (hmx : P.follows .mixedOrders = true) (hty : TyOk P K c.X c.ty) (hG : ∀ f cal, c.G f = some cal → Con P K f cal) {w0 : World} {L0 : Fm} (hpar : ∀ i v, L0.par i = some v → memN i c.keep = true) {ops : Array Oper} {st : St Γ} {kk : St Γ → Option β} {b : β}
  (h : Q1Y c ops 0 ops.toList [] st kk = some b) : ∃ st' : St Γ, st'.nx = st.nx ∧ (∀ kk' : St Γ → Option β, Q1Y c ops 0 ops.toList [] st kk' = kk' st') ∧
   ∀ (a : Go.Act) (w : World), SRB K w0 L0 st.nx st a w → ∀ (Q : Exit → Go.Act → World → Prop), (∀ a' w', SRB K w0 L0 (st.nx + 64 * ops.size) st' a' w' → Q .normal a' w') → ∀ id, (Code.region id ops true).wp P Q a w := by
 obtain ⟨tr, st', h1, h2, h3⟩ := regionD_tr (P := P) (nx := st.nx) hty hG ops.toList 0 [] st rfl h
 refine ⟨st', h1, h3, fun a w hS Q hQ id => wp_region_any hmx ?_⟩
 refine draw_any hty hG hpar h2 hQ ops.size _ a _ (by simp) (fun k x d _ hk => ?_) ?_ ?_
 ·exfalso
  rw [Z51, Array.getElem?_replicate] at hk
  split at hk <;> cases hk
 ·exact Z35 (Z102 _ _) (by simp)
 ·have e : puts (fun k => (Array.replicate ops.size false).getD k false) 0 tr st = st := puts_none tr 0 st fun k _ => by
   rw [Z51, Array.getElem?_replicate]
   split <;> rfl
  rw [e]
  exact SR.world (SR.mono hS fun r hr => .inl hr) rfl rfl rfl rfl (Nat.le_succ _)
end Go.Ev
/- Code, loops, functions. -/
namespace Go.Ev
variable {Γ : TypeId → Type} {K : Cod Γ} {β : Type}
def KI.item : KI → Item
 | .code c => .code c
 | .blk id => .inBlock id
 | .lp c => .inLoop c
 | .jn c => .code c
def Q2m (k : List KI) : List Item := k.map KI.item
theorem Q3K {id : Nat} : ∀ {k k' : List KI}, popTo id k = some k' → exitTo id (Q2m k) = some (Q2m k')
  | [], k', h => by cases h
  | .blk j :: k, k', h => by
    simp only [popTo] at h
    cases hb : id.beq j with
    | true =>
      rw [hb] at h; cases h
      have := beq_eq hb
      subst this
      simp [Q2m, KI.item, exitTo]
    | false =>
      rw [hb] at h
      have hne : (j == id) = false := by
        cases hb' : (j == id) with
        | false => rfl
        | true => have : j = id := by simpa using hb'
                  subst this; simp at hb
      show exitTo id (.inBlock j :: Q2m k) = _
      simp only [exitTo, hne]
      exact Q3K h
  | .code c :: k, k', h => by
    show exitTo id (.code c :: Q2m k) = _
    simp only [exitTo]
    exact Q3K h
  | .lp c :: k, k', h => by
    show exitTo id (.inLoop c :: Q2m k) = _
    simp only [exitTo]
    exact Q3K h
  | .jn c :: k, k', h => by
    show exitTo id (.code c :: Q2m k) = _
    simp only [exitTo]
    exact Q3K h
def Goes (P : Program) (F : Go.Act → World → Prop) (k : List KI) (a : Go.Act) (w : World) : Prop :=
 ∀ (b : Frame) (cs : List Frame), ∃ a' w', F a' w' ∧ ∃ todo, Steps P (lone (b.at a (Q2m k)) cs w) (lone { b.at a' todo with mode := .returning } cs w')
theorem Goes.of_step {P : Program} {F : Go.Act → World → Prop} {k k' : List KI} {a a' : Go.Act} {w w' : World} (hs : ∀ (b : Frame) (cs : List Frame), Steps P (lone (b.at a (Q2m k)) cs w) (lone (b.at a' (Q2m k')) cs w')) (h : Goes P F k' a' w') : Goes P F k a w := by
 intro b cs
 obtain ⟨a2, w2, hF, todo, hs2⟩ := h b cs
 exact ⟨a2, w2, hF, todo, (hs b cs).trans hs2⟩
theorem Goes.region {P : Program} {F : Go.Act → World → Prop} {k : List KI} {a : Go.Act} {w : World} {c : Code} (h : c.wp P (fun e a' w' => e = .normal ∧ Goes P F k a' w') a w) : Goes P F (.code c :: k) a w := by
 intro b cs
 obtain ⟨e, a1, w1, ⟨rfl, hg⟩, harr⟩ := h b (Q2m k) cs
 obtain ⟨a2, w2, hF, todo, hs2⟩ := hg b cs
 exact ⟨a2, w2, hF, todo, Steps.trans harr hs2⟩
section
variable {P : Program} {c : Ctx Γ K β} {w0 : World} {L0 : Fm} {fin : St Γ → Option β}
def LOk (P : Program) (K : Cod Γ) (w0 : World) (L0 : Fm) (F : β → Go.Act → World → Prop) (L : Key → St Γ → Option β) : Prop :=
 ∀ (key : Key) (st : St Γ) (b : β), L key st = some b → ∀ (a : Go.Act) (w : World), SRB K w0 L0 st.nx st a w → Goes P (F b) key a w
theorem run_sound (hmx : P.follows .mixedOrders = true) (hty : TyOk P K c.X c.ty) (hG : ∀ f cal, c.G f = some cal → Con P K f cal) (hpar : ∀ i v, L0.par i = some v → memN i c.keep = true) {F : β → Go.Act → World → Prop}
  (hfin : ∀ st b, fin st = some b → ∀ a w B, SRB K w0 L0 B st a w → F b a w) {L : Key → St Γ → Option β} (hL : LOk P K w0 L0 F L) :
  ∀ (n : Nat) (k : List KI) (st : St Γ) (b : β), run c fin L n k st = some b → ∀ (a : Go.Act) (w : World), SRB K w0 L0 st.nx st a w → Goes P (F b) k a w := by
 intro n
 induction n generalizing L with
 | zero => intro k st b h; cases k <;> cases h
 | succ n ih =>
  intro k st b h a w hS
  cases k with
  | nil => exact fun fr cs => ⟨a, w, hfin st b h a w _ hS, _, .one step_end⟩
  | cons x k =>
   cases x with
   | blk id => exact (ih hL k st b h a w hS).of_step fun fr cs => .one step_inBlock
   | lp bd =>
    simp only [run] at h
    have hS' := norm_sound hS (c.live (Q2v bd))
    exact (hL _ _ b h a w hS').of_step fun fr cs => .one step_inLoop
   | jn bd =>
    simp only [run] at h
    exact hL _ _ b h a w (norm_sound hS (c.live (Q2v bd)))
   | code cd =>
    cases cd with
    | skip => exact (ih hL k st b h a w hS).of_step fun fr cs => .one step_skip
    | region id ops draw =>
     cases draw with
     | true =>
      simp only [run] at h
      obtain ⟨st', e1, e2, e3⟩ := regionD_sound (P := P) (w0 := w0) (L0 := L0) hmx hty hG hpar h
      rw [e2] at h
      refine Goes.region (e3 a w hS _ (fun a' w' hS' => ⟨rfl , ih hL k _ b h a' w' ?_⟩) id)
      rw [e1]
      exact hS'.nx
     | false =>
      simp only [run] at h
      obtain ⟨st', e1, e2, e3⟩ := Q45 (P := P) (w0 := w0) (L0 := L0) hty hG hpar ops.toList 0 st h (fun j => by simp)
      rw [e2] at h
      refine Goes.region (wp_region ?_)
      rw [List.range_eq_range', show ops.size = ops.toList.length by simp]
      refine e3 a w (by simpa using hS) _ fun a' w' hS' => ⟨rfl , ih hL k _ b h a' w' ?_⟩
      simp only [Z25, Z36] at hS'
      rw [e1]
      exact hS'.nx
    | seq x y =>
     simp only [run] at h
     cases hm : memN (Q2v y) c.cuts with
     | true =>
      rw [hm] at h
      exact (ih hL (.code x :: .jn y :: k) st b h a w hS).of_step fun fr cs => .one step_seq
     | false =>
      rw [hm] at h
      exact (ih hL (.code x :: .code y :: k) st b h a w hS).of_step fun fr cs => .one step_seq
    | cond x y z =>
     simp only [run] at h
     cases hx : st.ev x with
     | bool t =>
      rw [hx] at h; simp only at h
      have hv : a.eval x = .bool t := by
       obtain ⟨R, M, own, hN, hx'⟩ := hS
       have := hx'.ev x
       rw [hx] at this
       generalize a.eval x = v at this
       cases this; rfl
      cases t with
      | true => exact (ih hL _ st b h a w hS).of_step fun fr cs => .one (by have := step_cond (P := P) (b := fr) (k := Q2m k) (cs := cs) (w := w) (x := y) (y := z) hv; exact this)
      | false => exact (ih hL _ st b h a w hS).of_step fun fr cs => .one (by have := step_cond (P := P) (b := fr) (k := Q2m k) (cs := cs) (w := w) (x := y) (y := z) hv; exact this)
     | unk =>
      rw [hx] at h; simp only [both] at h
      have hv : ∃ t, a.eval x = .bool t := by
       obtain ⟨R, M, own, hN, hx'⟩ := hS
       have := hx'.ev x
       rw [hx] at this
       generalize a.eval x = v at this
       cases this; exact ⟨_, rfl⟩
      obtain ⟨t, hv⟩ := hv
      split at h
      ·rename_i heq
       have hL0 : LOk P K w0 L0 F (fun _ _ => none) := fun _ _ _ h => by cases h
       cases t with
       | true => exact (ih hL0 _ st b h a w hS).of_step fun fr cs => .one (by have := step_cond (P := P) (b := fr) (k := Q2m k) (cs := cs) (w := w) (x := y) (y := z) hv; exact this)
       | false => rw [heq] at h; exact (ih hL0 _ st b h a w hS).of_step fun fr cs => .one (by have := step_cond (P := P) (b := fr) (k := Q2m k) (cs := cs) (w := w) (x := y) (y := z) hv; exact this)
      ·cases h
     | _ => rw [hx] at h; cases h
    | block id bd => exact (ih hL _ st b h a w hS).of_step fun fr cs => .one step_block
    | loop bd =>
     simp only [run] at h
     have hS' := norm_sound hS (c.live (Q2v bd))
     exact (hL _ _ b h a w hS').of_step fun fr cs => .one step_loop
    | exit id =>
     simp only [run] at h
     cases hp : popTo id k with
     | none => rw [hp] at h; cases h
     | some k' =>
      rw [hp] at h
      exact (ih hL k' st b h a w hS).of_step fun fr cs => .one (step_exit (Q3K hp))
    | ret => exact fun fr cs => ⟨a, w, hfin st b h a w _ hS, _, .one step_ret⟩
    | _ => simp only [run] at h; cases h
theorem Lk_ok (hmx : P.follows .mixedOrders = true) (hty : TyOk P K c.X c.ty) (hG : ∀ f cal, c.G f = some cal → Con P K f cal) (hpar : ∀ i v, L0.par i = some v → memN i c.keep = true) {F : β → Go.Act → World → Prop}
  (hfin : ∀ st b, fin st = some b → ∀ a w B, SRB K w0 L0 B st a w → F b a w) : ∀ k, LOk P K w0 L0 F (Lk c fin k) := by
 intro k
 induction k with
 | zero => intro key st b h; cases h
 | succ k ih =>
  intro key st b h a w hS
  simp only [Lk] at h
  exact run_sound hmx hty hG hpar hfin ih 5000 _ st b h a w hS
theorem Lw_some {key : Key} {st : St Γ} {b : β} (h : Lw c fin key st = some b) : ∃ k, Lk c fin k key st = some b := by
 unfold Lw at h
 split at h
 ·rename_i h'
  cases h
  exact h'.choose_spec
 ·cases h
theorem Lw_ok (hmx : P.follows .mixedOrders = true) (hty : TyOk P K c.X c.ty) (hG : ∀ f cal, c.G f = some cal → Con P K f cal) (hpar : ∀ i v, L0.par i = some v → memN i c.keep = true) {F : β → Go.Act → World → Prop}
  (hfin : ∀ st b, fin st = some b → ∀ a w B, SRB K w0 L0 B st a w → F b a w) : LOk P K w0 L0 F (Lw c fin) := by
 intro key st b h
 obtain ⟨k, hk⟩ := Lw_some h
 exact Lk_ok hmx hty hG hpar hfin k key st b hk
end
end Go.Ev
/- A function: what it does, as a contract. -/
namespace Go.Ev
variable {Γ : TypeId → Type} {K : Cod Γ} {β : Type}
def resSem (tmps : Array Value) : ResultVar → Sem Value
 | .tmp t => pure (tmps.getD t undef)
 | .cell a t => do loadVar t (← asAddr (tmps.getD a undef))
def resOf (P : Program) (tmps : Array Value) (w : World) (r : ResultVar) (v : Value) : Prop := (resSem tmps r).run P w = .ok v w
theorem mapML_run {P : Program} {w : World} (f : ResultVar → Sem Value) : ∀ (rs : List ResultVar) (vs : List Value), (∀ (i : Nat) (r : ResultVar), rs[i]? = some r → ∃ v, vs[i]? = some v ∧ (f r).run P w = .ok v w) → rs.length = vs.length →
  (rs.mapM f).run P w = .ok vs w
 | [], vs, _, hl => by
  cases vs with
  | nil => rfl
  | cons v vs => simp at hl
 | r :: rs, vs, h, hl => by
  cases vs with
  | nil => simp at hl
  | cons v vs =>
   obtain ⟨u, hu, hr⟩ := h 0 r rfl
   cases hu
   rw [List.mapM_cons]
   simp only [Z17, hr, Z24]
   rw [mapML_run f rs vs (fun i q hq => by simpa using h (i + 1) q (by simpa using hq)) (by simpa using hl)]
   rfl
def packV : List Value → Value
 | [v] => v
 | vs => .tuple vs.toArray
theorem results_run {P : Program} {fn : Func} {tmps : Array Value} {w : World} {vs : List Value} (h : ∀ (i : Nat) (r : ResultVar), fn.results[i]? = some r → ∃ v, vs[i]? = some v ∧ resOf P tmps w r v) (hl : fn.results.size = vs.length) :
  (results fn tmps).run P w = .ok (packV vs) w := by
 have e : results fn tmps = (do
   let vs ← fn.results.mapM (resSem tmps)
   pure (if h : vs.size = 1 then vs[0] else .tuple vs)) := by
  unfold results
  congr 1
 have hm : (fn.results.mapM (resSem tmps)).run P w = .ok vs.toArray w := by
  rw [Array.mapM_eq_mapM_toList, ← bind_pure_comp, Z17, mapML_run (resSem tmps) fn.results.toList vs (fun i r hr => h i r (by simpa using hr)) (by simpa using hl)]
  rfl
 rw [e, Z17, hm]
 simp only [Z24, Z46]
 congr 1
 cases vs with
 | nil => rfl
 | cons v vs =>
  cases vs with
  | nil => simp [packV]
  | cons u vs => simp [packV]
theorem loadAt_addr {P : Program} {t : TypeId} {xv r : Value} {w : World} (h : (Instr.loadAt t xv).run P w = .ok r w) : (do loadVar t (← asAddr xv) : Sem Value).run P w = .ok r w := by
 cases xv with
 | pointer a =>
  cases a with
  | some ad => exact h
  | none => simp [Instr.loadAt, Instr.sureAddr] at h
 | _ => simp [Instr.loadAt, Instr.sureAddr] at h
section
variable {P : Program} {c : Ctx Γ K β} {w0 : World} {L0 : Fm}
theorem Q4A (hty : TyOk P K c.X c.ty) {R : Rh Γ} {M : Nat → List Nat} {own : Nat → Option Nat} {st : St Γ} {a : Go.Act} {w : World} (hx : SRx K w0 L0 R M own st a w) :
  ∀ (rs : List ResultVar) {kk : List (AV Γ) → Option β} {b : β}, resAVs c st rs kk = some b →
   ∃ xs vs, kk xs = some b ∧ VRM K w R xs vs ∧ rs.length = vs.length ∧ ∀ (i : Nat) (r : ResultVar), rs[i]? = some r → ∃ v, vs[i]? = some v ∧ resOf P a.tmps w r v
 | [], kk, b, h => ⟨[], [], h, .nil, rfl, by simp⟩
 | .tmp t :: rs, kk, b, h => by
  simp only [resAVs] at h
  obtain ⟨xs, vs, h1, h2, h3, h4⟩ := Q4A hty hx rs h
  refine ⟨_, a.tmps.getD t undef :: vs, h1, .cons (hx.slots t) h2, by simp [h3], fun i r hr => ?_⟩
  cases i with
  | zero => cases hr; exact ⟨_, rfl, rfl⟩
  | succ i => exact h4 i r (by simpa using hr)
 | .cell ad t :: rs, kk, b, h => by
  simp only [resAVs] at h
  obtain ⟨v, e, hv⟩ := loadAt_sound (P := P) hty h
  rw [e] at h
  obtain ⟨xs, vs, h1, h2, h3, h4⟩ := Q4A hty hx rs h
  obtain ⟨r, hr1, hr2⟩ := hv w R M own _ _ hx.hl hx.locs (hx.slots ad)
  refine ⟨_, r :: vs, h1, .cons hr2 h2, by simp [h3], fun i q hq => ?_⟩
  cases i with
  | zero => cases hq; exact ⟨_, rfl, loadAt_addr hr1⟩
  | succ i => exact h4 i q (by simpa using hq)
theorem keeps_sound {R : Rh Γ} {M : Nat → List Nat} {own : Nat → Option Nat} {st : St Γ} {a : Go.Act} {w : World} (hx : SRx K w0 L0 R M own st a w) (args : List Value) {A' : Nat → Prop} (hA' : ∀ b, R.A b → A' b) :
  ∀ (ms : List Mode) (i : Nat) (ks : List (Option (TV Γ))) (m : List Nat), keeps st i ms = some (ks, m) → i + ms.length = args.length → (∀ j, ms[j]? = some .keep → ∀ v, args[i + j]? = some v → a.tmps.getD (i + j) undef = v) →
   m.Nodup ∧ (∀ q ∈ m, (R.loc q).live) ∧ ∃ L, L.Sublist (m.flatMap M) ∧ KeepR K w A' ks (args.drop i) L
 | [], i, ks, m, h, hl, _ => by
  simp [keeps] at h; obtain ⟨rfl, rfl⟩ := h
  rw [Z53 (by simp at hl; omega)]
  exact ⟨by simp, by simp, [], by simp, .nil⟩
 | md :: ms, i, ks, m, h, hl, hp => by
  have hlt : i < args.length := by rw [Z2] at hl; omega
  have hrec : ∀ ts m', keeps st (i + 1) ms = some (ts, m') → m'.Nodup ∧ (∀ q ∈ m', (R.loc q).live) ∧ ∃ L, L.Sublist (m'.flatMap M) ∧ KeepR K w A' ts (args.drop (i + 1)) L := fun ts m' h' =>
   keeps_sound hx args hA' ms (i + 1) ts m' h' (by rw [Z2] at hl; omega) fun j hj v hv => by
    have := hp (j + 1) (by simpa using hj) v (by rw [← hv]; congr 1; omega)
    rw [← this]; congr 1; omega
  have other : (match keeps st (i + 1) ms with | some (ts, m) => some (none :: ts, m) | none => none) = some (ks, m) → m.Nodup ∧ (∀ q ∈ m, (R.loc q).live) ∧ ∃ L, L.Sublist (m.flatMap M) ∧ KeepR K w A' ks (args.drop i) L := by
   intro h
   split at h
   ·rename_i ts m' h1
    cases h
    obtain ⟨a, b, L2, s2, c⟩ := hrec ts _ h1
    rw [Z27 hlt]
    exact ⟨a, b, L2, s2, .none c⟩
   ·cases h
  cases md with
  | keep =>
   simp only [keeps] at h
   split at h
   ·rename_i t m1 ts m2 h1 h2
    cases hd : disj m1 m2 with
    | false => rw [hd] at h; cases h
    | true =>
     rw [hd] at h; cases h
     have hv := hx.slots i
     have hp0 := hp 0 rfl args[i] (Z3 hlt)
     rw [Z31] at hp0
     rw [hp0] at hv
     obtain ⟨a1, b1, c1⟩ := ownV_sound hx.locs hx.hl hv h1
     obtain ⟨a2, b2, L2, s2, c2⟩ := hrec ts m2 h2
     obtain ⟨L1, s1, p1⟩ := c1 A' hA'
     refine ⟨Q43 a1 a2 hd, fun q hq => (Z26.1 hq).elim (b1 q) (b2 q), ?_⟩
     rw [Z27 hlt, Z105]
     exact ⟨_, s1.append s2, .some p1 c2⟩
   ·cases h
  | lend => exact other h
  | give => exact other h
theorem TvRs.length {w : World} {A : Nat → Prop} : ∀ {ts : List (TV Γ)} {vs : List Value} {L : List Nat}, TvRs K w A ts vs L → ts.length = vs.length
 | _, _, _, .nil => rfl
 | _, _, _, .cons _ k => by simp [k.length]
end
theorem packT {w : World} {A : Nat → Prop} {ts : List (TV Γ)} {vs : List Value} {L : List Nat} (h : TvRs K w A ts vs L) : ResR K w A (packTV ts) (packV vs) L := by
 cases h with
 | nil => exact .tup .nil
 | cons h1 k =>
  cases k with
  | nil => simp only [Z30]; exact .one h1
  | cons h2 k => exact .tup (.cons h1 (.cons h2 k))
def parOf (ms : List Mode) (args : List Value) (i : Nat) : Option Value := match ms[i]? with | some .keep => args[i]? | _ => none
theorem finish_sound {P : Program} {c : Ctx Γ K β} (hty : TyOk P K c.X c.ty) {fi : FnI Γ} {fn : Func} (hres : fn.results.toList = fi.results) {dec : Res Γ → Option β} {w0 : World} {A : Nat → Prop} {L : List Nat} {args : List Value} (hlen : fi.modes.length = args.length) {st : St Γ} {b : β}
  (h : finish c fi dec st = some b) {B : Nat} {a : Go.Act} {w : World} (hS : SRB K w0 ⟨L, A, parOf fi.modes args⟩ B st a w) :
  ∃ r v, dec r = some b ∧ a.defers = [] ∧ (results fn a.tmps).run P w = .ok v w ∧ Post K w0 A L args r v w := by
 obtain ⟨R, M, own, hN, hx⟩ := hS
 unfold finish at h
 obtain ⟨xs, vs, h1, h2, h3, h4⟩ := Q4A (P := P) hty hx fi.results h
 split at h1
 ·cases h1
 ·rename_i ts m l hm
  split at h1
  ·cases h1
  ·rename_i ks m' hk
   replace h1 := Q0a h1
   obtain ⟨hd, h1⟩ := h1
   rw [Z4] at hd
   obtain ⟨hd, hd2⟩ := hd
   have hA' : ∀ b, R.A b → (R.A b ∨ ∃ q ∈ l, b ∈ M q) := fun b hb => .inl hb
   obtain ⟨a1, b1, bl, hex⟩ := Q44 (X := c.X) hx.locs hx.hl fi.rms xs vs ts m l h2 hm
   obtain ⟨L1, s1, c1⟩ := hex (fun b => R.A b ∨ ∃ q ∈ l, b ∈ M q) hA' (fun q hq b hb => .inr ⟨q, hq, hb⟩)
   obtain ⟨a2, b2, L2, s2, c2⟩ := keeps_sound hx args hA' fi.modes 0 ks m' hk (by omega) (fun j hj v hv => by
    rw [Z25] at hv ⊢
    exact hx.par j v (by simp [parOf, hj, hv]))
   rw [Z58] at c2
   have hmm := Q43 a1 a2 hd
   have hlive : ∀ q ∈ m ++ m', (R.loc q).live := fun q hq => (Z26.1 hq).elim (b1 q) (b2 q)
   obtain ⟨hfn, hfl⟩ := hx.locs.flat (m ++ m') hmm hlive
   rw [Z105] at hfn hfl
   refine ⟨_, packV vs, h1, hx.defers, results_run (fun i r hr => h4 i r (by rw [← hres]; simpa using hr)) (by rw [← h3, ← hres]; simp), ⟨⟨fun b => R.A b ∨ ∃ q ∈ l, b ∈ M q, L1, L2, fun b hb => .inl (hx.up b hb), fun b hb => ?_, packT c1, c2, hfn.sublist (s1.append s2), fun b hb => ?_⟩, hx.fr.os, hx.fr.tape, hx.fr.output, hx.fr.drawn, hx.fr.size, hx.fr.block⟩⟩
   ·rcases hb with hb | ⟨q, hq, hb⟩
    ·exact (hx.dn b hb).imp id fun h => ⟨h.symm, hx.locs.alt b hb⟩
    ·have := hx.locs.lt q (bl q hq) b hb
     exact .inr ⟨this.2.1.symm, this.1⟩
   ·obtain ⟨⟨q', hq', ho'⟩, h5, h6, h7⟩ := hfl b ((s1.append s2).subset hb)
    refine ⟨h5, fun hA => ?_, h6.symm⟩
    rcases hA with hA | ⟨q, hq, hbq⟩
    ·exact h7 hA
    ·rw [hx.locs.own q (bl q hq) b hbq] at ho'
     exact Q3w hd2 q hq (Option.some.inj ho' ▸ hq')
theorem start_sound {fi : FnI Γ} {tvs : List (TV Γ)} {w : World} {A : Nat → Prop} {L : List Nat} {args : List Value} (hT : TvRs K w A tvs args L) (hnd : L.Nodup) (hL : ∀ b ∈ L, b < w.heap.size ∧ ¬ A b) (hA : ∀ b, A b → b < w.heap.size) :
  SRB K w ⟨L, A, parOf fi.modes args⟩ (start fi tvs).nx (start fi tvs) { tmps := args.toArray ++ Array.replicate (fi.ntmps - args.toArray.size) undef, defers := [] } w := by
 let R0 : Rh Γ := { A := A, N := fun _ => False, loc := fun _ => .dead, hdr := fun _ => undef }
 have hL0 : Locs K w R0 (fun _ => []) (fun _ => none) (mine w ⟨L, A, parOf fi.modes args⟩) := ⟨fun _ => trivial, fun _ h => h.elim, fun _ h => h.elim, fun _ h => h.elim, hA⟩
 obtain ⟨R1, M1, own1, hi, hv⟩ := Q4r (B := (impVs 0 tvs).2.2) tvs args L R0 _ _ 0 hL0 (fun _ _ _ h => h) (Z7 _) hT (fun _ h => h.elim) hnd (fun b hb => ⟨(hL b hb).1, .inr hb, (hL b hb).2⟩)
 have hlen : (impVs 0 tvs).1.length = args.length := by
  have : ∀ {xs : List (AV Γ)} {vs : List Value}, VRM K w R1 xs vs → xs.length = vs.length := by
   intro xs
   induction xs with
   | nil => intro vs h; cases h; rfl
   | cons x xs ih => intro vs h; cases h with | cons h k => simp [ih k]
  exact this hv
 refine SR.mono (N := R1.N) ⟨R1, M1, own1, rfl, hi.loc, ?_, fun t => ?_, hi.locs, rfl, Fr.refl w _, fun b hb => by rw [hi.A]; exact hb, fun b hb => by rw [hi.A] at hb; exact .inl hb, fun i v hp => ?_⟩ fun r hr => (hi.N r hr).elim (fun h => h.elim) fun h => h.2
 ·show ((impVs 0 tvs).1 ++ List.replicate (fi.ntmps - (impVs 0 tvs).1.length) (AV.tup [])).length = _
  simp [hlen]
 ·show VR K w R1 (((impVs 0 tvs).1 ++ List.replicate (fi.ntmps - (impVs 0 tvs).1.length) (AV.tup [])).getD t .undef) _
  rw [Z9, Z51, hlen]
  by_cases ht : t < args.length
  ·rw [Z94 (by omega), Z110 (by simpa using ht)]
   have : ∀ {xs : List (AV Γ)} {vs : List Value}, VRM K w R1 xs vs → ∀ {t : Nat}, t < vs.length → VR K w R1 ((xs[t]?).getD .undef) ((vs[t]?).getD undef) := by
    intro xs
    induction xs with
    | nil => intro vs h t ht; cases h; simp at ht
    | cons x xs ih =>
     intro vs h t ht
     cases h with
     | cons h k =>
      cases t with
      | zero => exact h
      | succ t => simpa using ih k (t := t) (by simpa using ht)
   simpa using this hv ht
  ·rw [Z76 (by omega), Array.getElem?_append_right (by simpa using ht)]
   by_cases ht2 : t - args.length < fi.ntmps - args.length
   ·rw [hlen, List.getElem?_replicate, if_pos ht2, Array.getElem?_replicate]
    simp only [List.size_toArray]
    rw [if_pos ht2]
    exact .tup (xs := []) (vs := []) .nil
   ·rw [hlen, List.getElem?_replicate, if_neg ht2]
    exact .undef _
 ·have hp : parOf fi.modes args i = some v := hp
  unfold parOf at hp
  split at hp
  ·have hlt : i < args.length := by
    rcases Z34 i args.length with h' | h'
    ·exact h'
    ·rw [Z21 h'] at hp; cases hp
   rw [Z51, Z110 (by simpa using hlt)]
   simp [hp]
  ·cases hp
theorem CallsF.of_calls {P : Program} {f : FuncId} {fn : Func} (hf : P.funcs[f]? = some fn) (hn : (fn.name == "runtime.NumGoroutine") = false) {cd : Code} (hb : fn.body = some cd) {args : Array Value} {w : World} {R : Value → World → Prop}
  (h : Calls P f args w fun | .returned v, w' => R v w' | _, _ => False) : CallsF P f args w R := by
 intro o a next Q hnext
 have hrun : (callFunc f args).run P w = .ok (.enter f args) w := by
  have hn' : ¬ fn.name = "runtime.NumGoroutine" := by simpa using hn
  simp [callFunc, hf, hn', hb]
 rw [hrun, Oper.upon_enter]
 refine Calls.mono h fun e w' he => ?_
 cases e with
 | returned v => exact hnext v w' he
 | panicked ch => exact he.elim
 | outgrown => exact he.elim
theorem calls_of {P : Program} {c : Ctx Γ K β} (hmx : P.follows .mixedOrders = true) (hty : TyOk P K c.X c.ty) (hG : ∀ f cal, c.G f = some cal → Con P K f cal) {f : FuncId} {fn : Func} (hf : P.funcs[f]? = some fn) (hn : (fn.name == "runtime.NumGoroutine") = false) {body : Code} (hb : fn.body = some body)
  {fi : FnI Γ} (hres : fn.results.toList = fi.results) (hnt : fn.ntmps = fi.ntmps) (hkeep : ∀ i, fi.modes[i]? = some .keep → memN i c.keep = true) {dec : Res Γ → Option β} {tvs : List (TV Γ)} {b : β} (h : callW c fi body dec tvs = some b) (hlen : fi.modes.length = tvs.length)
  {w : World} {A : Nat → Prop} {args : List Value} {L : List Nat} (hT : TvRs K w A tvs args L) (hnd : L.Nodup) (hL : ∀ b ∈ L, b < w.heap.size ∧ ¬ A b) (hA : ∀ b, A b → b < w.heap.size) :
  Calls P f args.toArray w fun e w' => ∃ v r, e = .returned v ∧ dec r = some b ∧ Post K w A L args r v w' := by
 intro cs
 let F : β → Go.Act → World → Prop := fun b a w' => ∃ r v, dec r = some b ∧ a.defers = [] ∧ (results fn a.tmps).run P w' = .ok v w' ∧ Post K w A L args r v w'
 have hlen' : fi.modes.length = args.length := hlen.trans hT.length
 have hfin : ∀ st b, finish c fi dec st = some b → ∀ a w' B, SRB K w ⟨L, A, parOf fi.modes args⟩ B st a w' → F b a w' := fun st b hb a w' B hS => finish_sound hty hres hlen' hb hS
 have hpar : ∀ i v, (⟨L, A, parOf fi.modes args⟩ : Fm).par i = some v → memN i c.keep = true := by
  intro i v hp
  simp only [parOf] at hp
  split at hp
  ·rename_i hk; exact hkeep i hk
  ·cases hp
 have hgo := run_sound hmx hty hG hpar hfin (Lw_ok hmx hty hG hpar hfin) 5000 _ _ b h _ w (start_sound (fi := fi) hT hnd hL hA)
 let fr : Frame := { (default : Frame) with fn := f, kind := .normal }
 obtain ⟨a', w', ⟨r, v, h1, h2, h3, h4⟩, todo, hs⟩ := hgo fr cs
 have henter : Frame.enter P f args.toArray .normal = fr.at { tmps := args.toArray ++ Array.replicate (fi.ntmps - args.toArray.size) undef, defers := [] } [.code body] := by
  simp [Frame.enter, Frame.at, hf, hb, fr, hnt]
 rw [henter]
 exact ⟨.returned v, w', { fr.at a' todo with mode := .returning }, ⟨v, r, rfl, h1, h4⟩, hs, rfl, rfl, h2, rfl, fn, hf, h3⟩
theorem con_of {P : Program} {c : Ctx Γ K β} (hmx : P.follows .mixedOrders = true) (hty : TyOk P K c.X c.ty) (hG : ∀ f cal, c.G f = some cal → Con P K f cal) {f : FuncId} {fn : Func} (hf : P.funcs[f]? = some fn) (hn : (fn.name == "runtime.NumGoroutine") = false) {body : Code} (hb : fn.body = some body)
  {fi : FnI Γ} (hres : fn.results.toList = fi.results) (hnt : fn.ntmps = fi.ntmps) (hkeep : ∀ i, fi.modes[i]? = some .keep → memN i c.keep = true) {dec : Res Γ → Option β} {tvs : List (TV Γ)} {b : β} (h : callW c fi body dec tvs = some b) (hlen : fi.modes.length = tvs.length)
  {w : World} {A : Nat → Prop} {args : List Value} {L : List Nat} (hT : TvRs K w A tvs args L) (hnd : L.Nodup) (hL : ∀ b ∈ L, b < w.heap.size ∧ ¬ A b) (hA : ∀ b, A b → b < w.heap.size) :
  CallsF P f args.toArray w fun v w' => ∃ r, dec r = some b ∧ Post K w A L args r v w' :=
 CallsF.of_calls hf hn hb ((calls_of hmx hty hG hf hn hb hres hnt hkeep h hlen hT hnd hL hA).mono fun e w' he => by
  obtain ⟨v, r, rfl, h1, h2⟩ := he
  exact ⟨r, h1, h2⟩)
end Go.Ev
/- What a loop comes to: its equation. -/
namespace Go.Ev
variable {Γ : TypeId → Type} {K : Cod Γ} {β : Type}
section
variable {P : Program} {c : Ctx Γ K β} {fin : St Γ → Option β}
theorem run_tail (hty : TyOk P K c.X c.ty) (hG : ∀ f cal, c.G f = some cal → Con P K f cal) {L : Key → St Γ → Option β} :
  ∀ (n : Nat) (k : List KI) (st : St Γ) (b : β), run c fin L n k st = some b → (∀ L', run c fin L' n k st = some b) ∨ ∃ key st', ∀ L', run c fin L' n k st = L' key st' := by
 intro n
 induction n with
 | zero => intro k st b h; cases k <;> cases h
 | succ n ih =>
  intro k st b h
  cases k with
  | nil => exact .inl fun _ => h
  | cons x k =>
   cases x with
   | blk id => exact ih k st b h
   | lp bd => exact .inr ⟨.code bd :: .lp bd :: k, _, fun _ => rfl⟩
   | jn bd => exact .inr ⟨.code bd :: k, _, fun _ => rfl⟩
   | code cd =>
    cases cd with
    | skip => exact ih k st b h
    | region id ops draw =>
     cases draw with
     | true =>
      simp only [run] at h
      obtain ⟨tr, st', e1, e3, e2⟩ := regionD_tr (P := P) (nx := st.nx) hty hG ops.toList 0 [] st rfl h
      rw [e2] at h
      rcases ih _ _ b h with h' | ⟨key, st2, h'⟩
      ·exact .inl fun L' => by simp only [run]; rw [e2]; exact h' L'
      ·exact .inr ⟨key, st2, fun L' => by simp only [run]; rw [e2]; exact h' L'⟩
     | false =>
      simp only [run] at h
      obtain ⟨st', e1, e2, e3⟩ := Q45 (P := P) (w0 := default) (L0 := ⟨[], fun _ => False, fun _ => none⟩) hty hG (fun _ _ h => by cases h) ops.toList 0 st h (fun j => by simp)
      rw [e2] at h
      rcases ih _ _ b h with h' | ⟨key, st2, h'⟩
      ·exact .inl fun L' => by simp only [run]; rw [e2]; exact h' L'
      ·exact .inr ⟨key, st2, fun L' => by simp only [run]; rw [e2]; exact h' L'⟩
    | seq x y =>
     simp only [run] at h
     cases hm : memN (Q2v y) c.cuts with
     | true =>
      rw [hm] at h
      rcases ih _ _ b h with h' | ⟨key, st2, h'⟩
      ·exact .inl fun L' => by simp only [run, hm]; exact h' L'
      ·exact .inr ⟨key, st2, fun L' => by simp only [run, hm]; exact h' L'⟩
     | false =>
      rw [hm] at h
      rcases ih _ _ b h with h' | ⟨key, st2, h'⟩
      ·exact .inl fun L' => by simp only [run, hm]; exact h' L'
      ·exact .inr ⟨key, st2, fun L' => by simp only [run, hm]; exact h' L'⟩
    | cond x y z =>
     simp only [run] at h
     cases hx : st.ev x with
     | bool t =>
      rw [hx] at h; simp only at h
      cases t with
      | true =>
       rcases ih _ _ b h with h' | ⟨key, st2, h'⟩
       ·exact .inl fun L' => by simp only [run, hx]; exact h' L'
       ·exact .inr ⟨key, st2, fun L' => by simp only [run, hx]; exact h' L'⟩
      | false =>
       rcases ih _ _ b h with h' | ⟨key, st2, h'⟩
       ·exact .inl fun L' => by simp only [run, hx]; exact h' L'
       ·exact .inr ⟨key, st2, fun L' => by simp only [run, hx]; exact h' L'⟩
     | unk => exact .inl fun L' => by simp only [run, hx] at h ⊢; exact h
     | _ => rw [hx] at h; cases h
    | block id bd => exact ih _ st b h
    | loop bd => exact .inr ⟨.code bd :: .lp bd :: k, _, fun _ => rfl⟩
    | exit id =>
     simp only [run] at h
     cases hp : popTo id k with
     | none => rw [hp] at h; cases h
     | some k' =>
      rw [hp] at h
      rcases ih _ _ b h with h' | ⟨key, st2, h'⟩
      ·exact .inl fun L' => by simp only [run, hp]; exact h' L'
      ·exact .inr ⟨key, st2, fun L' => by simp only [run, hp]; exact h' L'⟩
    | ret => exact .inl fun _ => h
    | _ => simp only [run] at h; cases h
theorem Lk_mono (hty : TyOk P K c.X c.ty) (hG : ∀ f cal, c.G f = some cal → Con P K f cal) : ∀ (k : Nat) (key : Key) (st : St Γ) (b : β), Lk c fin k key st = some b → Lk c fin (k + 1) key st = some b
 | 0, _, _, _, h => by cases h
 | k + 1, K0, st, b, h => by
  simp only [Lk] at h
  rcases run_tail hty hG 5000 _ st b h with h' | ⟨key, st', h'⟩
  ·exact h' _
  ·show run c fin (Lk c fin (k + 1)) 5000 K0 st = some b
   rw [h'] at h ⊢
   exact Lk_mono hty hG k key st' b h
theorem Lk_le (hty : TyOk P K c.X c.ty) (hG : ∀ f cal, c.G f = some cal → Con P K f cal) {k k' : Nat} (hk : k ≤ k') {key : Key} {st : St Γ} {b : β} (h : Lk c fin k key st = some b) : Lk c fin k' key st = some b := by
 induction hk with
 | refl => exact h
 | step _ ih => exact Lk_mono hty hG _ key st b ih
theorem Lw_of (hty : TyOk P K c.X c.ty) (hG : ∀ f cal, c.G f = some cal → Con P K f cal) {k : Nat} {key : Key} {st : St Γ} {b : β} (h : Lk c fin k key st = some b) : Lw c fin key st = some b := by
 have hex : ∃ r, ∃ k, Lk c fin k key st = some r := ⟨b, k, h⟩
 unfold Lw
 rw [dif_pos hex]
 obtain ⟨k', hk'⟩ := hex.choose_spec
 have h1 := Lk_le hty hG (Nat.le_max_left k k') h
 have h2 := Lk_le hty hG (Nat.le_max_right k k') hk'
 rw [h1] at h2
 exact h2.symm
theorem Q7 (hty : TyOk P K c.X c.ty) (hG : ∀ f cal, c.G f = some cal → Con P K f cal) (K0 : Key) (st : St Γ) :
  Lw c fin K0 st = run c fin (Lw c fin) 5000 K0 st := by
 have h1 : ∀ b, Lw c fin K0 st = some b → run c fin (Lw c fin) 5000 K0 st = some b := by
  intro b h
  obtain ⟨k, hk⟩ := Lw_some h
  cases k with
  | zero => cases hk
  | succ k =>
   simp only [Lk] at hk
   rcases run_tail hty hG 5000 _ st b hk with h' | ⟨key, st', h'⟩
   ·exact h' _
   ·rw [h'] at hk ⊢
    exact Lw_of hty hG hk
 have h2 : ∀ b, run c fin (Lw c fin) 5000 K0 st = some b → Lw c fin K0 st = some b := by
  intro b h
  rcases run_tail hty hG 5000 _ st b h with h' | ⟨key, st', h'⟩
  ·exact Lw_of hty hG (k := 1) (by simp only [Lk]; exact h' _)
  ·rw [h'] at h
   obtain ⟨k, hk⟩ := Lw_some h
   exact Lw_of hty hG (k := k + 1) (by simp only [Lk]; rw [h']; exact hk)
 cases ha : Lw c fin K0 st with
 | some b => exact (h1 b ha).symm
 | none =>
  cases hb : run c fin (Lw c fin) 5000 K0 st with
  | none => rfl
  | some b => rw [h2 b hb] at ha; cases ha
end
end Go.Ev
/- Element types by a table: what they are, how they lie in cells. -/
namespace Go.Ev
inductive CT where
 | int (k : IntKind)
 | bool
 | str
 | sl (e : TypeId) (cs : List CT)
mutual
def CT.ty : CT → Type
 | .int _ => Int
 | .bool => Bool
 | .str => ByteArray
 | .sl _ cs => List (Tup cs)
def Tup : List CT → Type
 | [] => Unit
 | c :: cs => TupC c.ty cs
def TupC (A : Type) : List CT → Type
 | [] => A
 | c :: cs => A × TupC c.ty cs
end
abbrev Qy := List (Nat × CT × List CT)
def QR : Qy → TypeId → List CT
 | [], _ => [.bool]
 | (i, c, cs) :: r, e => bif e.beq i then c :: cs else QR r e
def GT (l : Qy) (e : TypeId) : Type := Tup (QR l e)
mutual
def eqC : (a b : CT) → Option (PLift (a = b))
 | .int k, .int k' => if h : k = k' then some ⟨h ▸ rfl⟩ else none
 | .bool, .bool => some ⟨rfl⟩
 | .str, .str => some ⟨rfl⟩
 | .sl e cs, .sl e' cs' => if h : e = e' then (match eqL cs cs' with | some ⟨h'⟩ => some ⟨h ▸ h' ▸ rfl⟩ | none => none) else none
 | _, _ => none
def eqL : (a b : List CT) → Option (PLift (a = b))
 | [], [] => some ⟨rfl⟩
 | a :: as, b :: bs => match eqC a b, eqL as bs with | some ⟨h⟩, some ⟨h'⟩ => some ⟨h ▸ h' ▸ rfl⟩ | _, _ => none
 | _, _ => none
end
variable {l : Qy}
def castT {a b : List CT} (h : a = b) (xs : List (Tup a)) : List (Tup b) := h ▸ xs
def encC (l : Qy) (b : Bool) : (c : CT) → c.ty → T (GT l)
 | .int k, n => .int k n
 | .bool, v => .bool v
 | .str, s => .str s
 | .sl e cs, xs => match eqL cs (QR l e) with
   | some ⟨h⟩ => .sl b b e (castT h xs)
   | none => .bool false
def encR (l : Qy) (b : Bool) : (c : CT) → (cs : List CT) → TupC c.ty cs → List (T (GT l))
 | c, [], x => [encC l b c x]
 | c, c' :: cs, (x, y) => encC l b c x :: encR l b c' cs y
def encL (l : Qy) (b : Bool) : (cs : List CT) → Tup cs → List (T (GT l))
 | [], _ => []
 | c :: cs, x => encR l b c cs x
def decC (l : Qy) (b : Bool) : (c : CT) → T (GT l) → Option c.ty
 | .int k, .int k' n => if k' = k then some n else none
 | .bool, .bool v => some v
 | .str, .str s => some s
 | .sl e cs, .sl o i e' xs => match eqL cs (QR l e) with
   | some ⟨h⟩ => if he : e' = e then (bif (o == b) && (i == b) then some (castT h.symm (he ▸ xs : List (GT l e))) else none) else none
   | none => none
 | _, _ => none
def decR (l : Qy) (b : Bool) : (cs : List CT) → (c : CT) → List (T (GT l)) → Option (TupC c.ty cs)
 | [], c, ts => match ts with | [t] => decC l b c t | _ => none
 | c' :: cs, c, ts => match ts with
  | [] => none
  | t :: ts => match decC l b c t with
   | none => none
   | some x => match decR l b cs c' ts with
    | none => none
    | some y => some ((x, y) : c.ty × TupC c'.ty cs)
def decL (l : Qy) (b : Bool) : (cs : List CT) → List (T (GT l)) → Option (Tup cs)
 | [], [] => some ()
 | [], _ => none
 | c :: cs, ts => decR l b cs c ts
theorem castT_castT {a b : List CT} (h : a = b) (xs : List (Tup b)) : castT h (castT h.symm xs) = xs := by subst h; rfl
theorem decC_ok {b : Bool} : ∀ (c : CT) (t : T (GT l)) (x : c.ty), decC l b c t = some x → encC l b c x = t := by
 intro c t x h
 unfold decC at h
 split at h
 ·split at h
  ·rename_i hk; cases h; simp only [encC, hk]
  ·cases h
 ·cases h; rfl
 ·cases h; rfl
 ·rename_i e cs o i e' xs
  split at h
  ·rename_i hc he
   split at h
   ·rename_i hh
    subst hh
    replace h := Q0a h; obtain ⟨hb, h⟩ := h
    rw [Z4] at hb
    have h1 : o = b := by simpa using hb.1
    have h2 : i = b := by simpa using hb.2
    cases h
    subst h1; subst h2
    simp only [encC, he]
    exact congrArg (fun y => T.sl (Γ := GT l) i i e' y) (castT_castT hc xs)
   ·cases h
  ·cases h
 ·cases h
theorem encR_len {b : Bool} : ∀ (c : CT) (cs : List CT) (x : TupC c.ty cs), (encR l b c cs x).length = cs.length + 1
 | c, [], x => rfl
 | c, c' :: cs, (x, y) => by simp only [encR, Z2, encR_len c' cs y]
theorem encL_len {b : Bool} : ∀ (cs : List CT) (x : Tup cs), (encL l b cs x).length = cs.length
 | [], _ => rfl
 | c :: cs, x => encR_len c cs x
theorem decR_ok {b : Bool} : ∀ (cs : List CT) (c : CT) (ts : List (T (GT l))) (x : TupC c.ty cs), decR l b cs c ts = some x → encR l b c cs x = ts
 | [], c, ts, x, h => by
  match ts, h with
  | [], h => cases h
  | [t], h => exact congrArg (fun y => [y]) (decC_ok c t x h)
  | _ :: _ :: _, h => cases h
 | c' :: cs, c, ts, x, h => by
  unfold decR at h
  split at h
  ·cases h
  ·rename_i t ts
   split at h
   ·cases h
   ·rename_i y hy
    split at h
    ·cases h
    ·rename_i z hz
     have h := Option.some.inj h
     subst h
     show encC l b c y :: encR l b c' cs z = t :: ts
     rw [decC_ok c t y hy, decR_ok cs c' ts z hz]
theorem decL_ok {b : Bool} : ∀ (cs : List CT) (ts : List (T (GT l))) (x : Tup cs), decL l b cs ts = some x → encL l b cs x = ts
 | [], [], x, h => rfl
 | [], t :: ts, x, h => by simp [decL] at h
 | c :: cs, ts, x, h => decR_ok cs c ts x h
theorem tabOf_pos : ∀ (l : Qy) (e : TypeId), 0 < (QR l e).length
 | [], e => Nat.one_pos
 | (i, c, cs) :: r, e => by
  simp only [QR]
  cases e.beq i with
  | true => simp
  | false => exact tabOf_pos r e
def KT (l : Qy) : Cod (GT l) where
 sz := fun e => (QR l e).length
 enc := fun e b x => encL l b (QR l e) x
 dec := fun e b ts => decL l b (QR l e) ts
 pos := tabOf_pos l
 len := fun e b x => encL_len _ x
 ok := fun e b ts x h => decL_ok _ ts x h
def zeroC : (c : CT) → c.ty
 | .int _ => (0 : Int)
 | .bool => false
 | .str => (⟨#[]⟩ : ByteArray)
 | .sl _ cs => ([] : List (Tup cs))
def zeroR : (c : CT) → (cs : List CT) → TupC c.ty cs
 | c, [] => zeroC c
 | c, c' :: cs => (zeroC c, zeroR c' cs)
def zeroL : (cs : List CT) → Tup cs
 | [] => ()
 | c :: cs => zeroR c cs
def numL : (cs : List CT) → Option (IntKind × (Tup cs → Int))
 | [.int k] => some (k, fun x => x)
 | _ => none
def CT.flat : CT → Bool
 | .sl _ _ => false
 | _ => true
def flatL : List CT → Bool := allB CT.flat
theorem flatC {b : Bool} {c : CT} (h : c.flat = true) (x : c.ty) : encC l true c x = encC l b c x := by
 cases c <;> first | rfl | cases h
theorem flatR {b : Bool} : ∀ (c : CT) (cs : List CT) (x : TupC c.ty cs), flatL (c :: cs) = true → encR l true c cs x = encR l b c cs x
 | c, [], x, h => by
  simp only [flatL, allB, Z4] at h
  exact congrArg (fun t => [t]) (flatC h.1 x)
 | c, c' :: cs, (x, y), h => by
  simp only [flatL, allB, Z4] at h
  show encC l true c x :: encR l true c' cs y = encC l b c x :: encR l b c' cs y
  rw [flatC (b := b) h.1, flatR (b := b) c' cs y (by simp only [flatL, allB, Z4]; exact h.2)]
theorem plainC (c : CT) (x : c.ty) : (encC l false c x).plain = true := by
 cases c with
 | sl e cs =>
  simp only [encC]
  split <;> rfl
 | _ => rfl
theorem plainR : ∀ (c : CT) (cs : List CT) (x : TupC c.ty cs), ∀ t ∈ encR l false c cs x, t.plain = true
 | c, [], x, t, h => by rw [Z38.1 h]; exact plainC c x
 | c, c' :: cs, (x, y), t, h => by
  rcases Z13.1 h with rfl | h
  ·exact plainC c x
  ·exact plainR c' cs y t h
theorem closedC {fl : TypeId → Bool} (c : CT) (x : c.ty) : Q2S fl (encC l true c x) = false := by
 cases c with
 | sl e cs =>
  simp only [encC]
  split <;> rfl
 | _ => rfl
theorem closedR {fl : TypeId → Bool} : ∀ (c : CT) (cs : List CT) (x : TupC c.ty cs), ∀ t ∈ encR l true c cs x, Q2S fl t = false
 | c, [], x, t, h => by rw [Z38.1 h]; exact closedC c x
 | c, c' :: cs, (x, y), t, h => by
  rcases Z13.1 h with rfl | h
  ·exact closedC c x
  ·exact closedR c' cs y t h
theorem RoL.inv1 {Γ : TypeId → Type} {K : Cod Γ} {w : World} {A : Nat → Prop} {t : T Γ} {vs : List Value} : RoL K w A [t] vs ↔ ∃ v, vs = [v] ∧ Ro K w A t v := by
 constructor
 ·intro h
  cases h with
  | cons h k => cases k; exact ⟨_, rfl, h⟩
 ·rintro ⟨v, rfl, h⟩; exact .cons h .nil
theorem RoL.invC {Γ : TypeId → Type} {K : Cod Γ} {w : World} {A : Nat → Prop} {t : T Γ} {ts : List (T Γ)} {vs : List Value} : RoL K w A (t :: ts) vs ↔ ∃ v us, vs = v :: us ∧ Ro K w A t v ∧ RoL K w A ts us := by
 constructor
 ·intro h
  cases h with
  | cons h k => exact ⟨_, _, rfl, h, k⟩
 ·rintro ⟨v, us, rfl, h, k⟩; exact .cons h k
theorem cells_same {Γ : TypeId → Type} {K : Cod Γ} {w : World} {A : Nat → Prop} {e : TypeId} (h : ∀ x vs, RoL K w A (K.enc e true x) vs ↔ RoL K w A (K.enc e false x) vs) : ∀ (xs : List (Γ e)) (vs : List Value), RoL K w A (cells K true e xs) vs ↔ RoL K w A (cells K false e xs) vs
 | [], vs => Iff.rfl
 | x :: xs, vs => by
  have e1 : ∀ i, cells K i e (x :: xs) = K.enc e i x ++ cells K i e xs := fun i => by simp [cells]
  rw [e1, e1]
  constructor
  ·intro hr
   obtain ⟨v1, v2, rfl, h1, h2⟩ := hr.cat
   exact ((h x v1).1 h1).append ((cells_same h xs v2).1 h2)
  ·intro hr
   obtain ⟨v1, v2, rfl, h1, h2⟩ := hr.cat
   exact ((h x v1).2 h1).append ((cells_same h xs v2).2 h2)
mutual
theorem sameC (w : World) (A : Nat → Prop) : ∀ (c : CT) (x : c.ty) (v : Value), Ro (KT l) w A (encC l true c x) v ↔ Ro (KT l) w A (encC l false c x) v
 | .int k, x, v => Iff.rfl
 | .bool, x, v => Iff.rfl
 | .str, x, v => Iff.rfl
 | .sl e cs, xs, v => by
  simp only [encC]
  cases hq : eqL cs (QR l e) with
  | none => exact Iff.rfl
  | some h =>
   obtain ⟨h⟩ := h
   simp only
   have hel : ∀ (y : GT l e) (vs : List Value), RoL (KT l) w A ((KT l).enc e true y) vs ↔ RoL (KT l) w A ((KT l).enc e false y) vs := by
    intro y vs
    have := sameL w A cs
    rw [h] at this
    exact this y vs
   have hc := cells_same (K := KT l) hel (castT h xs)
   constructor
   ·intro hr
    cases hr with
    | sl h1 h2 h3 h4 => exact .sl h1 h2 ((hc _).1 h3) h4
   ·intro hr
    cases hr with
    | sl h1 h2 h3 h4 => exact .sl h1 h2 ((hc _).2 h3) h4
termination_by c _ _ => 2 * SizeOf.sizeOf c
theorem sameL (w : World) (A : Nat → Prop) : ∀ (cs : List CT) (x : Tup cs) (vs : List Value), RoL (KT l) w A (encL l true cs x) vs ↔ RoL (KT l) w A (encL l false cs x) vs
 | [], _, vs => Iff.rfl
 | c :: cs, x, vs => sameR w A c cs x vs
termination_by cs _ _ => 2 * SizeOf.sizeOf cs
theorem sameR (w : World) (A : Nat → Prop) : ∀ (c : CT) (cs : List CT) (x : TupC c.ty cs) (vs : List Value), RoL (KT l) w A (encR l true c cs x) vs ↔ RoL (KT l) w A (encR l false c cs x) vs
 | c, [], x, vs => by
  simp only [encR]
  rw [RoL.inv1, RoL.inv1]
  constructor
  ·rintro ⟨v, e, h⟩; exact ⟨v, e, (sameC w A c x v).1 h⟩
  ·rintro ⟨v, e, h⟩; exact ⟨v, e, (sameC w A c x v).2 h⟩
 | c, c' :: cs, (x, y), vs => by
  simp only [encR]
  rw [RoL.invC, RoL.invC]
  constructor
  ·rintro ⟨v, us, e, h, k⟩; exact ⟨v, us, e, (sameC w A c x v).1 h, (sameR w A c' cs y us).1 k⟩
  ·rintro ⟨v, us, e, h, k⟩; exact ⟨v, us, e, (sameC w A c x v).2 h, (sameR w A c' cs y us).2 k⟩
termination_by c cs _ _ => 2 * (SizeOf.sizeOf c + SizeOf.sizeOf cs) + 1
end
def ofNumL : (cs : List CT) → Option (IntKind × (Int → Tup cs))
 | [.int k] => some (k, fun n => n)
 | _ => none
theorem ofNumL_ok : ∀ (cs : List CT) {k : IntKind} {h : Int → Tup cs}, ofNumL cs = some (k, h) → ∀ b n, encL l b cs (h n) = [.int k n]
 | [], _, _, h => by cases h
 | [.int _], _, _, h => by cases h; intro b n; rfl
 | [.bool], _, _, h => by cases h
 | [.str], _, _, h => by cases h
 | [.sl _ _], _, _, h => by cases h
 | .int _ :: _ :: _, _, _, h => by cases h
 | .bool :: _ :: _, _, _, h => by cases h
 | .str :: _ :: _, _, _, h => by cases h
 | .sl _ _ :: _ :: _, _, _, h => by cases h
theorem numL_ok : ∀ (cs : List CT) {k : IntKind} {f : Tup cs → Int}, numL cs = some (k, f) → ∀ b x, encL l b cs x = [.int k (f x)]
 | [], k, f, h => by cases h
 | [.int k'], k, f, h => by cases h; intro b x; rfl
 | [.bool], k, f, h => by cases h
 | [.str], k, f, h => by cases h
 | [.sl _ _], k, f, h => by cases h
 | .int _ :: _ :: _, k, f, h => by cases h
 | .bool :: _ :: _, k, f, h => by cases h
 | .str :: _ :: _, k, f, h => by cases h
 | .sl _ _ :: _ :: _, k, f, h => by cases h
theorem flatLE {b : Bool} : ∀ (cs : List CT) (x : Tup cs), flatL cs = true → encL l true cs x = encL l b cs x
 | [], _, _ => rfl
 | c :: cs, x, h => flatR c cs x h
theorem plainLE : ∀ (cs : List CT) (x : Tup cs), ∀ t ∈ encL l false cs x, t.plain = true
 | [], _, t, h => by cases h
 | c :: cs, x, t, h => plainR c cs x t h
theorem closedLE {fl : TypeId → Bool} : ∀ (cs : List CT) (x : Tup cs), ∀ t ∈ encL l true cs x, Q2S fl t = false
 | [], _, t, h => by cases h
 | c :: cs, x, t, h => closedR c cs x t h
def XT (l : Qy) : CodX (KT l) where
 zero := fun e => zeroL (QR l e)
 num := fun e => numL (QR l e)
 numOk := fun e k f h b x => numL_ok (QR l e) h b x
 ofNum := fun e => ofNumL (QR l e)
 ofNumOk := fun e k f h b x => ofNumL_ok (QR l e) h b x
 flat := fun e => flatL (QR l e)
 flatOk := fun e h x => flatLE (QR l e) x h
 plain := fun e x t h => plainLE (QR l e) x t h
 same := fun e x w A vs => sameL w A (QR l e) x vs
 closed := fun e x t h => closedLE (QR l e) x t h
end Go.Ev
