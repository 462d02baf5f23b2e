/- A verified evaluator of function bodies, part 1: definitions and their soundness. -/
import Derived.Laws.OwnMore
import Derived.Below
import Derived.Orders
import Derived.LoopN
import Derived.Deep.Draws
import Derived.Laws.CopyRow
import Derived.Laws.Entries
import Derived.Laws.Tables
import Derived.Laws.World
import Derived.Laws.Small
import Derived.Laws.Cover3
import Derived.Maps.AppendAt
import Derived.Laws.BytesString
set_option linter.unusedVariables false
set_option linter.unusedSimpArgs false
/- The domain of the evaluator: trees (what a call is given and gives), values of a run, places. -/
namespace Go
theorem Z0 : type_of% @Option.bind_some := @Option.bind_some
theorem Z1 : type_of% @List.length_map := @List.length_map
theorem Z2 : type_of% @List.length_cons := @List.length_cons
theorem Z3 : type_of% @List.getElem?_eq_getElem := @List.getElem?_eq_getElem
theorem Z4 : type_of% @Bool.and_eq_true := @Bool.and_eq_true
theorem Z5 : type_of% @Int.toNat_natCast := @Int.toNat_natCast
theorem Z6 : type_of% @List.length_nil := @List.length_nil
theorem Z7 : type_of% @Nat.le_refl := @Nat.le_refl
theorem Z8 : type_of% @List.length_take := @List.length_take
theorem Z9 : type_of% @List.getD_eq_getElem?_getD := @List.getD_eq_getElem?_getD
theorem Z10 : type_of% @List.length_append := @List.length_append
theorem Z11 : type_of% @List.getElem?_map := @List.getElem?_map
theorem Z12 : type_of% @Bool.not_true := @Bool.not_true
theorem Z13 : type_of% @List.mem_cons := @List.mem_cons
theorem Z14 : type_of% @List.getElem_mem := @List.getElem_mem
theorem Z15 : type_of% @List.map_append := @List.map_append
theorem Z16 : type_of% @List.map_cons := @List.map_cons
theorem Z17 : type_of% @Sem.run_bind := @Sem.run_bind
theorem Z18 : type_of% @List.mem_map := @List.mem_map
theorem Z19 : type_of% @List.length_drop := @List.length_drop
theorem Z20 : type_of% @Nat.zero_le := @Nat.zero_le
theorem Z21 : type_of% @List.getElem?_eq_none := @List.getElem?_eq_none
theorem Z22 : type_of% @List.take_length := @List.take_length
theorem Z23 : type_of% @List.map_map := @List.map_map
theorem Z24 : type_of% @Result.andThen_ok := @Result.andThen_ok
theorem Z25 : type_of% @Nat.zero_add := @Nat.zero_add
theorem Z26 : type_of% @List.mem_append := @List.mem_append
theorem Z27 : type_of% @List.drop_eq_getElem_cons := @List.drop_eq_getElem_cons
theorem Z28 : type_of% @List.append_assoc := @List.append_assoc
theorem Z29 : type_of% @Bool.true_and := @Bool.true_and
theorem Z30 : type_of% @List.append_nil := @List.append_nil
theorem Z31 : type_of% @Nat.add_zero := @Nat.add_zero
theorem Z32 : type_of% @List.filter_cons := @List.filter_cons
theorem Z33 : type_of% @List.nodup_append := @List.nodup_append
theorem Z34 : type_of% @Nat.lt_or_ge := @Nat.lt_or_ge
theorem Z35 : type_of% @Nat.le_trans := @Nat.le_trans
theorem Z36 : type_of% @Array.length_toList := @Array.length_toList
theorem Z37 : type_of% @List.take_of_length_le := @List.take_of_length_le
theorem Z38 : type_of% @List.mem_singleton := @List.mem_singleton
theorem Z39 : type_of% @List.take_zero := @List.take_zero
theorem Z40 : type_of% @List.nil_append := @List.nil_append
theorem Z41 : type_of% @Option.getD_some := @Option.getD_some
theorem Z42 : type_of% @List.length_range := @List.length_range
theorem Z43 : type_of% @List.mem_cons_self := @List.mem_cons_self
theorem Z44 : type_of% @List.flatten_cons := @List.flatten_cons
theorem Z45 : type_of% @List.map_congr_left := @List.map_congr_left
theorem Z46 : type_of% @Sem.run_pure := @Sem.run_pure
theorem Z47 : type_of% @Option.map_some := @Option.map_some
theorem Z48 : type_of% @List.take_add_one := @List.take_add_one
theorem Z49 : type_of% @List.all_eq_true := @List.all_eq_true
theorem Z50 : type_of% @List.mem_range := @List.mem_range
theorem Z51 : type_of% @Array.getD_eq_getD_getElem? := @Array.getD_eq_getD_getElem?
theorem Z52 : type_of% @Option.bind_eq_some_iff := @Option.bind_eq_some_iff
theorem Z53 : type_of% @List.drop_eq_nil_of_le := @List.drop_eq_nil_of_le
theorem Z54 : type_of% @Nat.lt_of_lt_of_le := @Nat.lt_of_lt_of_le
theorem Z55 : type_of% @List.getElem?_take := @List.getElem?_take
theorem Z56 : type_of% @Nat.mul_comm := @Nat.mul_comm
theorem Z57 : type_of% @List.mem_cons_of_mem := @List.mem_cons_of_mem
theorem Z58 : type_of% @List.drop_zero := @List.drop_zero
theorem Z59 : type_of% @List.map_nil := @List.map_nil
theorem Z60 : type_of% @Nat.pow_succ := @Nat.pow_succ
theorem Z61 : type_of% @List.getElem?_drop := @List.getElem?_drop
theorem Z62 : type_of% @Bool.not_false := @Bool.not_false
theorem Z63 : type_of% @List.filter_append := @List.filter_append
theorem Z64 : type_of% @Nat.mul_le_mul_right := @Nat.mul_le_mul_right
theorem Z65 : type_of% @Nat.add_assoc := @Nat.add_assoc
theorem Z66 : type_of% @Nat.add_mul := @Nat.add_mul
theorem Z67 : type_of% @Bool.eq_iff_iff := @Bool.eq_iff_iff
theorem Z68 : type_of% @Nat.min_eq_left := @Nat.min_eq_left
theorem Z69 : type_of% @List.eq_nil_of_length_eq_zero := @List.eq_nil_of_length_eq_zero
theorem Z70 : type_of% @Nat.succ_mul := @Nat.succ_mul
theorem Z71 : type_of% @List.nodup_nil := @List.nodup_nil
theorem Z72 : type_of% @Array.getElem?_eq_some_iff := @Array.getElem?_eq_some_iff
theorem Z73 : type_of% @List.mem_filter := @List.mem_filter
theorem Z74 : type_of% @List.drop_length := @List.drop_length
theorem Z75 : type_of% @List.ext_getElem := @List.ext_getElem
theorem Z76 : type_of% @List.getElem?_append_right := @List.getElem?_append_right
theorem Z77 : type_of% @Bool.false_eq_true := @Bool.false_eq_true
theorem Z78 : type_of% @List.nodup_cons := @List.nodup_cons
theorem Z79 : type_of% @Array.getElem?_eq_getElem := @Array.getElem?_eq_getElem
theorem Z80 : type_of% @Nat.pow_le_pow_right := @Nat.pow_le_pow_right
theorem Z81 : type_of% @List.pairwise_cons := @List.pairwise_cons
theorem Z82 : type_of% @List.take_append_drop := @List.take_append_drop
theorem Z83 : type_of% @Nat.mul_one := @Nat.mul_one
theorem Z84 : type_of% @List.length_replicate := @List.length_replicate
theorem Z85 : type_of% @List.getD_cons_succ := @List.getD_cons_succ
theorem Z86 : type_of% @List.map_id := @List.map_id
theorem Z87 : type_of% @List.getElem_map := @List.getElem_map
theorem Z88 : type_of% @List.range_succ := @List.range_succ
theorem Z89 : type_of% @Bool.not_not := @Bool.not_not
theorem Z90 : type_of% @Nat.div_le_self := @Nat.div_le_self
theorem Z91 : type_of% @List.map_take := @List.map_take
theorem Z92 : type_of% @List.length_set := @List.length_set
theorem Z93 : type_of% @Nat.not_lt_zero := @Nat.not_lt_zero
theorem Z94 : type_of% @List.getElem?_append_left := @List.getElem?_append_left
theorem Z95 : type_of% @List.ext_getElem? := @List.ext_getElem?
theorem Z96 : type_of% @List.drop_drop := @List.drop_drop
theorem Z97 : type_of% @List.all_cons := @List.all_cons
theorem Z98 : type_of% @Bool.and_false := @Bool.and_false
theorem Z99 : type_of% @List.not_mem_nil := @List.not_mem_nil
theorem Z100 : type_of% @List.take_succ_cons := @List.take_succ_cons
theorem Z101 : type_of% @Nat.add_sub_cancel_left := @Nat.add_sub_cancel_left
theorem Z102 : type_of% @List.length_filter_le := @List.length_filter_le
theorem Z103 : type_of% @Nat.add_sub_cancel := @Nat.add_sub_cancel
theorem Z104 : type_of% @List.flatMap_cons := @List.flatMap_cons
theorem Z105 : type_of% @List.flatMap_append := @List.flatMap_append
theorem Z106 : type_of% @List.singleton_append := @List.singleton_append
theorem Z107 : type_of% @List.getElem?_eq_some_iff := @List.getElem?_eq_some_iff
theorem Z108 : type_of% @List.getElem?_cons_succ := @List.getElem?_cons_succ
theorem Z109 : type_of% @List.mem_of_mem_take := @List.mem_of_mem_take
theorem Z110 : type_of% @Array.getElem?_append_left := @Array.getElem?_append_left
end Go
namespace Go.Ev
inductive T (Γ : TypeId → Type) where
 | int (k : IntKind) (n : Int)
 | bool (b : Bool)
 | str (s : ByteArray)
 | sl (own inner : Bool) (e : TypeId) (xs : List (Γ e))
 | ptr (own : Bool) (t : TypeId) (cells : List (T Γ))
 | fn (f : Nat) (caps : List (T Γ))
structure Cod (Γ : TypeId → Type) where
 sz : TypeId → Nat
 enc : (e : TypeId) → Bool → Γ e → List (T Γ)
 dec : (e : TypeId) → Bool → List (T Γ) → Option (Γ e)
 pos : ∀ e, 0 < sz e
 len : ∀ e b x, (enc e b x).length = sz e
 ok : ∀ e b cs x, dec e b cs = some x → enc e b x = cs
variable {Γ : TypeId → Type} {K : Cod Γ}
def cells (K : Cod Γ) (inner : Bool) (e : TypeId) (xs : List (Γ e)) : List (T Γ) := (xs.map (K.enc e inner)).flatten
def blk : Value → List Nat
 | .slice (some a) _ _ => [a.block]
 | _ => []
mutual
inductive Ro (K : Cod Γ) (w : World) (A : Nat → Prop) : T Γ → Value → Prop
 | int (k n) : Ro K w A (.int k n) (.int k n)
 | bool (b) : Ro K w A (.bool b) (.bool b)
 | str (s) : Ro K w A (.str s) (.string s)
 | sl {own inner e xs a n cap vs} (hl : n = xs.length) (hc : n ≤ cap) (hr : RoL K w A (cells K inner e xs) vs)
   (hv : ∀ j u, vs[j]? = some u → ∃ ad, a = some ad ∧ A ad.block ∧ w.cell? (ad.add j) = some u) : Ro K w A (.sl own inner e xs) (.slice a n cap)
 | ptr {own t cs a vs} (hr : RoL K w A cs vs) (hv : ∀ j u, vs[j]? = some u → A a.block ∧ w.cell? (a.add j) = some u) : Ro K w A (.ptr own t cs) (.pointer (some a))
 | fn {f caps vs} (hr : RoL K w A caps vs) : Ro K w A (.fn f caps) (.func (.func f) #[] vs.toArray)
inductive RoL (K : Cod Γ) (w : World) (A : Nat → Prop) : List (T Γ) → List Value → Prop
 | nil : RoL K w A [] []
 | cons {t v ts vs} (h : Ro K w A t v) (hs : RoL K w A ts vs) : RoL K w A (t :: ts) (v :: vs)
end
mutual
inductive Own (K : Cod Γ) (w : World) (A : Nat → Prop) : T Γ → Value → List Nat → Prop
 | int (k n) : Own K w A (.int k n) (.int k n) []
 | bool (b) : Own K w A (.bool b) (.bool b) []
 | str (s) : Own K w A (.str s) (.string s) []
 | ro {inner e xs v} (h : Ro K w A (.sl false inner e xs) v) : Own K w A (.sl false inner e xs) v []
 | sl {inner e xs v vs L} (hr : w.ownsRow 0 e (K.sz e) v xs.length vs) (hl : OwnL K w A (cells K inner e xs) vs L) : Own K w A (.sl true inner e xs) v (blk v ++ L)
 | ptrRo {t cs v} (h : Ro K w A (.ptr false t cs) v) : Own K w A (.ptr false t cs) v []
 | ptr {t cs g c L} (hg : w.heap[g]? = some (.cells c t (0, 0))) (hl : OwnL K w A cs c.toList L) : Own K w A (.ptr true t cs) (.pointer (some ⟨g, 0, none⟩)) (g :: L)
 | fn {f caps v} (h : Ro K w A (.fn f caps) v) : Own K w A (.fn f caps) v []
inductive OwnL (K : Cod Γ) (w : World) (A : Nat → Prop) : List (T Γ) → List Value → List Nat → Prop
 | nil : OwnL K w A [] [] []
 | cons {t v ts vs L L'} (h : Own K w A t v L) (hs : OwnL K w A ts vs L') : OwnL K w A (t :: ts) (v :: vs) (L ++ L')
end
def Same (A : Nat → Prop) (w w' : World) : Prop := ∀ b, A b → w'.heap[b]? = w.heap[b]?
theorem add_block (a : Addr) (j : Nat) : (a.add j).block = a.block := by unfold Addr.add; split <;> rfl
theorem cell_same {w w' : World} {a : Addr} {j : Nat} (h : w'.heap[a.block]? = w.heap[a.block]?) : w'.cell? (a.add j) = w.cell? (a.add j) :=
 World.cell?_of_block (by rw [add_block]; exact h)
mutual
theorem Ro.frame {w w' : World} {A A' : Nat → Prop} (hA : ∀ b, A b → A' b) (hs : Same A w w') {t : T Γ} {v : Value} : Ro K w A t v → Ro K w' A' t v
 | .int k n => .int k n
 | .bool b => .bool b
 | .str s => .str s
 | .sl hl hc hr hv => .sl hl hc (RoL.frame hA hs hr) fun j u h => let ⟨ad, e, a, c⟩ := hv j u h; ⟨ad, e, hA _ a, (cell_same (hs _ a)).trans c⟩
 | .ptr hr hv => .ptr (RoL.frame hA hs hr) fun j u h => ⟨hA _ (hv j u h).1, (cell_same (hs _ (hv j u h).1)).trans (hv j u h).2⟩
 | .fn hr => .fn (RoL.frame hA hs hr)
theorem RoL.frame {w w' : World} {A A' : Nat → Prop} (hA : ∀ b, A b → A' b) (hs : Same A w w') {ts : List (T Γ)} {vs : List Value} : RoL K w A ts vs → RoL K w' A' ts vs
 | .nil => .nil
 | .cons h k => .cons (Ro.frame hA hs h) (RoL.frame hA hs k)
end
theorem ownsRow_frame {w w' : World} {base e sz n : Nat} {v : Value} {xs : List Value} (h : w.ownsRow base e sz v n xs) (hs : ∀ b ∈ blk v, w'.heap[b]? = w.heap[b]?) : w'.ownsRow base e sz v n xs := by
 refine ⟨h.1, ?_⟩
 rcases h.2 with h | ⟨g, cap, cur, rfl, hb, hg, r⟩
 ·exact .inl h
 ·exact .inr ⟨g, cap, cur, rfl, hb, (hs g (by simp [blk])).trans hg, r⟩
mutual
theorem Own.frame {w w' : World} {A A' : Nat → Prop} (hA : ∀ b, A b → A' b) (hs : Same A w w') {t : T Γ} {v : Value} {L : List Nat} : Own K w A t v L → (∀ b ∈ L, w'.heap[b]? = w.heap[b]?) → Own K w' A' t v L
 | .int k n, _ => .int k n
 | .bool b, _ => .bool b
 | .str s, _ => .str s
 | .ro h, _ => .ro (h.frame hA hs)
 | .sl hr hl, h => .sl (ownsRow_frame hr fun b hb => h b (by simp [hb])) (OwnL.frame hA hs hl fun b hb => h b (by simp [hb]))
 | .ptrRo h, _ => .ptrRo (h.frame hA hs)
 | .ptr hg hl, h => .ptr ((h _ (by simp)).trans hg) (OwnL.frame hA hs hl fun b hb => h b (by simp [hb]))
 | .fn h, _ => .fn (h.frame hA hs)
theorem OwnL.frame {w w' : World} {A A' : Nat → Prop} (hA : ∀ b, A b → A' b) (hs : Same A w w') {ts : List (T Γ)} {vs : List Value} {L : List Nat} : OwnL K w A ts vs L → (∀ b ∈ L, w'.heap[b]? = w.heap[b]?) → OwnL K w' A' ts vs L
 | .nil, _ => .nil
 | .cons h k, hb => .cons (Own.frame hA hs h fun b h => hb b (by simp [h])) (OwnL.frame hA hs k fun b h => hb b (by simp [h]))
end
theorem Ro.one {w : World} {A : Nat → Prop} {t : T Γ} {v : Value} (h : Ro K w A t v) : v.oneCell' = true := by cases h <;> rfl
theorem Q30 {w : World} {base e sz n : Nat} {v : Value} {xs : List Value} (h : w.ownsRow base e sz v n xs) : ∃ a cap, v = .slice a n cap ∧ n ≤ cap := by
 rcases h.2 with ⟨rfl, rfl⟩ | ⟨g, cap, cur, rfl, _, _, hc, _⟩
 ·exact ⟨_, _, rfl, Z7 _⟩
 ·exact ⟨_, _, rfl, hc⟩
theorem Own.one {w : World} {A : Nat → Prop} {t : T Γ} {v : Value} {L : List Nat} (h : Own K w A t v L) : v.oneCell' = true := by
 cases h with
 | ro h => exact h.one
 | ptrRo h => exact h.one
 | fn h => exact h.one
 | sl hr _ => obtain ⟨a, c, rfl, _⟩ := Q30 hr; rfl
 | _ => rfl
theorem OwnL.one {w : World} {A : Nat → Prop} : ∀ {ts : List (T Γ)} {vs : List Value} {L : List Nat}, OwnL K w A ts vs L → ∀ v ∈ vs, v.oneCell' = true
 | _, _, _, .nil => by simp
 | _, _, _, .cons h k => by
  intro v hv
  rcases Z13.1 hv with rfl | hv
  ·exact h.one
  ·exact OwnL.one k v hv
theorem RoL.length {w : World} {A : Nat → Prop} : ∀ {ts : List (T Γ)} {vs : List Value}, RoL K w A ts vs → ts.length = vs.length
 | _, _, .nil => rfl
 | _, _, .cons _ k => by simp [RoL.length k]
theorem OwnL.length {w : World} {A : Nat → Prop} : ∀ {ts : List (T Γ)} {vs : List Value} {L : List Nat}, OwnL K w A ts vs L → ts.length = vs.length
 | _, _, _, .nil => rfl
 | _, _, _, .cons _ k => by simp [OwnL.length k]
theorem RoL.append {w : World} {A : Nat → Prop} : ∀ {ts ts' : List (T Γ)} {vs vs' : List Value}, RoL K w A ts vs → RoL K w A ts' vs' → RoL K w A (ts ++ ts') (vs ++ vs')
 | _, _, _, _, .nil, k => k
 | _, _, _, _, .cons h h', k => .cons h (h'.append k)
theorem OwnL.append {w : World} {A : Nat → Prop} : ∀ {ts ts' : List (T Γ)} {vs vs' : List Value} {L L' : List Nat}, OwnL K w A ts vs L → OwnL K w A ts' vs' L' → OwnL K w A (ts ++ ts') (vs ++ vs') (L ++ L')
 | _, _, _, _, _, _, .nil, k => k
 | _, _, _, _, _, _, .cons h h', k => by rw [Z28]; exact .cons h (h'.append k)
theorem RoL.take {w : World} {A : Nat → Prop} : ∀ {ts : List (T Γ)} {vs : List Value} (n : Nat), RoL K w A ts vs → RoL K w A (ts.take n) (vs.take n)
 | _, _, _, .nil => by simpa using RoL.nil
 | _, _, 0, .cons _ _ => by simpa using RoL.nil
 | _, _, n + 1, .cons h k => by simpa using RoL.cons h (k.take n)
theorem RoL.drop {w : World} {A : Nat → Prop} : ∀ {ts : List (T Γ)} {vs : List Value} (n : Nat), RoL K w A ts vs → RoL K w A (ts.drop n) (vs.drop n)
 | _, _, _, .nil => by simpa using RoL.nil
 | _, _, 0, .cons h k => by simpa using RoL.cons h k
 | _, _, n + 1, .cons h k => by simpa using k.drop n
theorem OwnL.split {w : World} {A : Nat → Prop} : ∀ (ts : List (T Γ)) {ts' : List (T Γ)} {vs : List Value} {L : List Nat}, OwnL K w A (ts ++ ts') vs L →
  ∃ vs1 vs2 L1 L2, vs = vs1 ++ vs2 ∧ L = L1 ++ L2 ∧ OwnL K w A ts vs1 L1 ∧ OwnL K w A ts' vs2 L2
 | [], ts', vs, L, h => ⟨[], vs, [], L, rfl, rfl, .nil, h⟩
 | t :: ts, ts', _, _, .cons (v := v) (L := l) h k => by
  obtain ⟨vs1, vs2, L1, L2, rfl, rfl, h1, h2⟩ := OwnL.split ts k
  exact ⟨v :: vs1, vs2, l ++ L1, L2, rfl, by simp, .cons h h1, h2⟩
theorem OwnL.take {w : World} {A : Nat → Prop} {ts : List (T Γ)} {vs : List Value} {L : List Nat} (n : Nat) (h : OwnL K w A ts vs L) : ∃ L1 L2, L = L1 ++ L2 ∧ OwnL K w A (ts.take n) (vs.take n) L1 ∧ OwnL K w A (ts.drop n) (vs.drop n) L2 := by
 have h' := h
 rw [← Z82 n ts] at h'
 obtain ⟨vs1, vs2, L1, L2, rfl, rfl, h1, h2⟩ := OwnL.split _ h'
 refine ⟨L1, L2, rfl, ?_, ?_⟩
 ·have e := h1.length
  rw [Z8] at e
  by_cases hn : n ≤ ts.length
  ·rw [Z68 hn] at e
   rw [e, List.take_left]; rw [← e]; exact h1
  ·have e2 := h2.length
   rw [Z19] at e2
   have : vs2 = [] := Z69 (by omega)
   subst this
   have e3 : ts.take n = ts := Z37 (by omega)
   have e1 := h1.length
   rw [Z30, Z37 (l := vs1) (by rw [← e1, Z8]; omega)]; exact h1
 ·have e := h1.length
  rw [Z8] at e
  by_cases hn : n ≤ ts.length
  ·rw [Z68 hn] at e
   rw [e, List.drop_left]; rw [← e]; exact h2
  ·have e2 := h2.length
   rw [Z19] at e2
   have : vs2 = [] := Z69 (by omega)
   subst this
   have e1 := h1.length
   have e3 : vs1.drop n = [] := Z53 (by rw [← e1, Z8]; omega)
   rw [Z30, e3]; exact h2
mutual
theorem Own.toRo {w : World} {A B : Nat → Prop} (hA : ∀ b, A b → B b) {t : T Γ} {v : Value} {L : List Nat} : Own K w A t v L → (∀ b ∈ L, B b) → Ro K w B t v
 | .int k n, _ => .int k n
 | .bool b, _ => .bool b
 | .str s, _ => .str s
 | .ro h, _ => h.frame hA (fun _ _ => rfl)
 | .ptrRo h, _ => h.frame hA (fun _ _ => rfl)
 | .fn h, _ => h.frame hA (fun _ _ => rfl)
 | .sl (v := v) (vs := vs) (e := e) hr hl, hL => by
  obtain ⟨a, cap, rfl, hc⟩ := Q30 hr
  refine .sl rfl hc (OwnL.toRo hA hl fun b hb => hL b (by simp [hb])) fun j u hu => ?_
  cases a with
  | none =>
   rcases hr.2 with ⟨_, hn⟩ | ⟨g, cap, cur, hv, _⟩
   ·have := hr.1; rw [hn] at this; simp at this; subst this; simp at hu
   ·cases hv
  | some ad =>
   have hb : B ad.block := hL _ (by simp [blk])
   refine ⟨ad, rfl, hb, ?_⟩
   rcases hr.2 with ⟨hv, _⟩ | ⟨g, cap, cur, hv, _⟩
   ·cases hv
   ·cases hv
    exact hr.cells rfl j u hu
 | .ptr (cs := cs) (g := g) (c := c) hg hl, hL => by
  refine .ptr (OwnL.toRo hA hl fun b hb => hL b (by simp [hb])) fun j u hu => ⟨hL _ (by simp), ?_⟩
  have hadd : (⟨g, 0, none⟩ : Addr).add j = ⟨g, j, none⟩ := by unfold Addr.add; split <;> simp_all
  rw [hadd, cell_of_row w g j c _ (0, 0) hg]
  simpa using hu
theorem OwnL.toRo {w : World} {A B : Nat → Prop} (hA : ∀ b, A b → B b) {ts : List (T Γ)} {vs : List Value} {L : List Nat} : OwnL K w A ts vs L → (∀ b ∈ L, B b) → RoL K w B ts vs
 | .nil, _ => .nil
 | .cons h k, hL => .cons (Own.toRo hA h fun b hb => hL b (by simp [hb])) (OwnL.toRo hA k fun b hb => hL b (by simp [hb]))
end
theorem Q4H {α : Type} (sz : Nat) : ∀ (els : List (List α)), (∀ el ∈ els, el.length = sz) → els.flatten.length = els.length * sz
 | [], _ => by simp
 | x :: xs, h => by
  rw [Z44, Z10, Q4H sz xs (fun el hel => h el (by simp [hel])), h x (by simp), Z2, Z70, Nat.add_comm]
theorem flatten_take {α : Type} (sz : Nat) : ∀ (els : List (List α)) (n : Nat), (∀ el ∈ els, el.length = sz) → (els.take n).flatten = els.flatten.take (n * sz)
 | [], n, _ => by simp
 | x :: xs, 0, _ => by simp
 | x :: xs, n + 1, h => by
  have hx := h x (by simp)
  rw [Z100, Z44, Z44, flatten_take sz xs n (fun el hel => h el (by simp [hel])), Z70, List.take_append, hx]
  rw [Z37 (l := x) (by rw [hx]; exact Nat.le_add_left _ _), Z103]
theorem flatten_drop {α : Type} (sz : Nat) : ∀ (els : List (List α)) (n : Nat), (∀ el ∈ els, el.length = sz) → (els.drop n).flatten = els.flatten.drop (n * sz)
 | [], n, _ => by simp
 | x :: xs, 0, _ => by simp
 | x :: xs, n + 1, h => by
  have hx := h x (by simp)
  rw [List.drop_succ_cons, Z44, flatten_drop sz xs n (fun el hel => h el (by simp [hel])), Z70, List.drop_append, hx]
  rw [Z53 (as := x) (by rw [hx]; exact Nat.le_add_left _ _), Z40, Z103]
theorem enc_all (inner : Bool) (e : TypeId) (xs : List (Γ e)) : ∀ el ∈ xs.map (K.enc e inner), el.length = K.sz e := by
 intro el h
 obtain ⟨x, _, rfl⟩ := Z18.1 h
 exact K.len e inner x
theorem Q2s (inner : Bool) (e : TypeId) (xs : List (Γ e)) : (cells K inner e xs).length = xs.length * K.sz e := by
 rw [cells, Q4H _ _ (enc_all inner e xs), Z1]
theorem Q3V (inner : Bool) (e : TypeId) (xs : List (Γ e)) (n : Nat) : cells K inner e (xs.take n) = (cells K inner e xs).take (n * K.sz e) := by
 rw [cells, Z91, flatten_take _ _ _ (enc_all inner e xs), cells]
theorem cells_drop (inner : Bool) (e : TypeId) (xs : List (Γ e)) (n : Nat) : cells K inner e (xs.drop n) = (cells K inner e xs).drop (n * K.sz e) := by
 rw [cells, List.map_drop, flatten_drop _ _ _ (enc_all inner e xs), cells]
theorem Q3u (inner : Bool) (e : TypeId) (xs ys : List (Γ e)) : cells K inner e (xs ++ ys) = cells K inner e xs ++ cells K inner e ys := by
 simp [cells]
theorem cells_one (inner : Bool) (e : TypeId) (x : Γ e) : cells K inner e [x] = K.enc e inner x := by simp [cells]
theorem cells_mid (inner : Bool) (e : TypeId) (xs : List (Γ e)) (i : Nat) (x : Γ e) (h : xs[i]? = some x) :
  cells K inner e xs = cells K inner e (xs.take i) ++ K.enc e inner x ++ cells K inner e (xs.drop (i + 1)) := by
 rw [← cells_one (K := K), ← Q3u, ← Q3u]
 congr 1
 have hi : i < xs.length := by
  rcases Z34 i xs.length with h' | h'
  ·exact h'
  ·simp [Z21 h'] at h
 have hx : xs[i] = x := by simpa [Z3 hi] using h
 rw [Z28, ← hx]
 simp
end Go.Ev
/- The evaluator: values of a run, places, operations, regions, code. -/
namespace Go.Ev
inductive AV (Γ : TypeId → Type) where
 | int (k : IntKind) (n : Int)
 | bool (b : Bool)
 | str (s : ByteArray)
 | nil                                             -- the literal nil of a slice type
 | vs (inner : Bool) (e : TypeId) (xs : List (Γ e))  -- a shared slice, by value
 | vp (cells : List (T Γ))                         -- a shared address: what lies from there on
 | sl (r g : Nat)                                  -- a whole row of one's own, of this age
 | sv (r g off len : Nat)                          -- a part of it
 | ptr (b off : Nat)                               -- a place in a variable of one's own
 | er (r g i off : Nat)                            -- a place in element i of a row of one's own
 | fn (f : Nat) (caps : List (AV Γ))
 | agg (cs : List (AV Γ))
 | lit (e : TypeId) (k : Nat) (cs : List (AV Γ))   -- a slice that was written out: its elements' cells
 | tup (vs : List (AV Γ))
 | pnil                                            -- the nil pointer
 | unk                                             -- a bool that isn't known
 | undef
inductive LV (Γ : TypeId → Type) where
 | dead
 | row (g : Nat) (inner : Bool) (e : TypeId) (xs : List (Γ e))
 | frow (g : Nat) (inner : Bool) (e : TypeId) (xs : List (Γ e))
 | box (t : TypeId) (cells : List (AV Γ))
 | hrow (g : Nat) (e : TypeId) (xs : List (Γ e)) (x : Γ e) (i off n : Nat)   -- a row, out of whose element i a slice of its own was taken: it's in place n
@[reducible] def LV.base {Γ : TypeId → Type} : LV Γ → LV Γ
 | .hrow g e xs _ _ _ _ => .row g true e xs
 | v => v
structure St (Γ : TypeId → Type) where
 slots : List (AV Γ)
 loc : Nat → LV Γ
 nx : Nat
inductive TV (Γ : TypeId → Type) where
 | one (t : T Γ)
 | agg (ts : List (T Γ))
 | tup (vs : List (TV Γ))
abbrev Res (Γ : TypeId → Type) := TV Γ × List (Option (TV Γ))
inductive Mode where
 | lend | keep | give
 deriving DecidableEq
structure Callee (Γ : TypeId → Type) (β : Type) where
 modes : List Mode
 sem : List (TV Γ) → (Res Γ → Option β) → Option β
 boxer : Option (TypeId × Nat) := none
inductive Zc where
 | int (k : IntKind) | bool | str | nil (e : TypeId) | any
inductive TK where
 | one | bool | int (k : IntKind) | str | sl (e : TypeId) | agg (fields : List (Nat × Nat × Bool))   -- offset, cells, is it a struct
structure TyI where
 kind : TK
 size : Nat
 bytes : Nat
 zero : List Zc
def T.plain {Γ : TypeId → Type} : T Γ → Bool
 | .sl true .. => false
 | .ptr true .. => false
 | _ => true
def Q2S {Γ : TypeId → Type} (flat : TypeId → Bool) : T Γ → Bool
 | .sl false _ _ _ => true
 | .sl true i e _ => !i && !flat e
 | .ptr _ _ _ => true
 | .fn _ [] => false
 | .fn _ _ => true
 | _ => false
structure CodX {Γ : TypeId → Type} (K : Cod Γ) where
 zero : (e : TypeId) → Γ e
 num : (e : TypeId) → Option (IntKind × (Γ e → Int))
 numOk : ∀ e k f, num e = some (k, f) → ∀ b x, K.enc e b x = [.int k (f x)]
 ofNum : (e : TypeId) → Option (IntKind × (Int → Γ e))
 ofNumOk : ∀ e k h, ofNum e = some (k, h) → ∀ b n, K.enc e b (h n) = [.int k n]
 flat : TypeId → Bool
 flatOk : ∀ e, flat e = true → ∀ x, K.enc e true x = K.enc e false x
 plain : ∀ e x, ∀ t ∈ K.enc e false x, t.plain = true
 same : ∀ e x w A vs, RoL K w A (K.enc e true x) vs ↔ RoL K w A (K.enc e false x) vs
 closed : ∀ e x, ∀ t ∈ K.enc e true x, Q2S flat t = false
structure Ctx (Γ : TypeId → Type) (K : Cod Γ) (β : Type) where
 X : CodX K
 ty : TypeId → Option TyI
 inner : TypeId → Bool
 keep : List Nat
 cuts : List Nat
 live : Nat → List Nat
 G : Nat → Option (Callee Γ β)
 lits : Bool := false
variable {Γ : TypeId → Type} {K : Cod Γ} {β : Type}
structure Act (Γ : TypeId → Type) where
 val : AV Γ
 upd : List (Nat × LV Γ)
def at? {α : Type} (xs : List α) (i : Int) : Option α := bif decide (0 ≤ i) then xs[i.toNat]? else none
def St.get (st : St Γ) (t : Nat) : AV Γ := st.slots.getD t .undef
def constAV : Value → AV Γ
 | .int k n => .int k n
 | .bool b => .bool b
 | .string s => .str s
 | .slice none 0 0 => .nil
 | .pointer none => .pnil
 | _ => .undef
def St.ev (st : St Γ) : Operand → AV Γ
 | .tmp t => st.get t
 | .const v => constAV v
 | .func f => .fn f []
 | .global _ => .undef
def Qp (l : Nat → LV Γ) : List (Nat × LV Γ) → Nat → LV Γ
 | [], i => l i
 | (j, v) :: us, i => bif i.beq j then v else Qp l us i
def Q2T (s : List (AV Γ)) : Option Nat → AV Γ → List (AV Γ)
 | some d, v => s.set d v
 | none, _ => s
def St.put (st : St Γ) (dst : Option Nat) (a : Act Γ) : St Γ := { st with slots := Q2T st.slots dst a.val, loc := Qp st.loc a.upd }
def Ctx.elem (c : Ctx Γ K β) (t : TypeId) : Option TypeId := match c.ty t with | some { kind := .sl e, .. } => some e | _ => none
def Ctx.isAgg (c : Ctx Γ K β) (t : TypeId) : Bool := match c.ty t with | some { kind := .agg _, .. } => true | _ => false
def Ctx.isOne (c : Ctx Γ K β) (t : TypeId) : Bool := match c.ty t with | some { kind := .agg _, .. } => false | some _ => true | none => false
def Ctx.elemIs (c : Ctx Γ K β) (t e : TypeId) : Bool := match c.elem t with | some e' => e'.beq e | none => false
def Ctx.isSl (c : Ctx Γ K β) (t : TypeId) : Bool := match c.elem t with | some _ => true | none => false
def Ctx.isStr (c : Ctx Γ K β) (t : TypeId) : Bool := match c.ty t with | some { kind := .str, .. } => true | _ => false
def Ctx.isBool (c : Ctx Γ K β) (t : TypeId) : Bool := match c.ty t with | some { kind := .bool, .. } => true | _ => false
def Ctx.isU8s (c : Ctx Γ K β) (t : TypeId) : Bool := match c.elem t with | some e => (match c.ty e with | some { kind := .int .u8, .. } => true | _ => false) | none => false
def Ctx.size (c : Ctx Γ K β) (t : TypeId) : Nat := match c.ty t with | some i => i.size | _ => 0
def Ctx.field (c : Ctx Γ K β) (t : TypeId) (f : Nat) : Option (Nat × Nat × Bool) := match c.ty t with | some { kind := .agg fs, .. } => fs[f]? | _ => none
def shT : T Γ → AV Γ
 | .int k n => .int k n
 | .bool b => .bool b
 | .str s => .str s
 | .sl _ inner e xs => .vs inner e xs
 | .ptr _ _ cs => .vp cs
 | .fn f caps => .fn f (shL caps)
where shL : List (T Γ) → List (AV Γ)
 | [] => []
 | t :: ts => shT t :: shL ts
def Q2f (c : Ctx Γ K β) : Nat → List Zc → List (AV Γ) × List (Nat × LV Γ)
 | _, [] => ([], [])
 | n, .int k :: zs => let r := Q2f c n zs; (.int k 0 :: r.1, r.2)
 | n, .bool :: zs => let r := Q2f c n zs; (.bool false :: r.1, r.2)
 | n, .str :: zs => let r := Q2f c n zs; (.str ⟨#[]⟩ :: r.1, r.2)
 | n, .nil e :: zs => let r := Q2f c (n + 1) zs; (.sl n 0 :: r.1, (n, .row 0 (c.inner e) e []) :: r.2)
 | n, .any :: zs => let r := Q2f c n zs; (.undef :: r.1, r.2)
def Q1W (c : Ctx Γ K β) (n : Nat) (t : TypeId) (v : AV Γ) (k : Act Γ → Option β) : Option β :=
 match v with
 | .nil => match c.elem t with | some e => k ⟨.sl n 0, [(n, .row 0 (c.inner e) e [])]⟩ | none => none
 | .undef => none
 | v => k ⟨v, []⟩
def AV.cellsOf : AV Γ → List (AV Γ)
 | .agg cs => cs
 | v => [v]
def AV.cellsOk : AV Γ → Bool
 | .tup _ => false
 | .lit .. => false
 | .undef => false
 | _ => true
def toT (loc : Nat → LV Γ) (inner : Bool) : List (AV Γ) → Option (List (T Γ) × List Nat)
 | [] => some ([], [])
 | .int k n :: r => match toT loc inner r with | some (ts, m) => some (.int k n :: ts, m) | none => none
 | .bool b :: r => match toT loc inner r with | some (ts, m) => some (.bool b :: ts, m) | none => none
 | .str s :: r => match toT loc inner r with | some (ts, m) => some (.str s :: ts, m) | none => none
 | .vs i e xs :: r => bif inner then none else match toT loc inner r with | some (ts, m) => some (.sl false i e xs :: ts, m) | none => none
 | .sl q g :: r => match inner, loc q, toT loc inner r with
   | true, .row g' i e xs, some (ts, m) => bif g.beq g' && !(m.contains q) then some (.sl true i e xs :: ts, q :: m) else none
   | _, _, _ => none
 | _ :: _ => none
def hasVs : List (AV Γ) → Bool
 | [] => false
 | .vs .. :: _ => true
 | _ :: r => hasVs r
def hasSl : List (AV Γ) → Bool
 | [] => false
 | .sl .. :: _ => true
 | _ :: r => hasSl r
def kill (m : List Nat) : List (Nat × LV Γ) := m.map fun q => (q, .dead)
def decs (K : Cod Γ) (e : TypeId) (inner : Bool) : List (List (T Γ)) → (List (Γ e) → Option β) → Option β
 | [], k => k []
 | cs :: r, k => match K.dec e inner cs with | some x => decs K e inner r (fun xs => k (x :: xs)) | none => none
def toTs (loc : Nat → LV Γ) (inner : Bool) : List (List (AV Γ)) → Option (List (List (T Γ)) × List Nat)
 | [] => some ([], [])
 | cs :: r => match toT loc inner cs, toTs loc inner r with
   | some (ts, m), some (tss, m') => bif m.all (fun q => !(m'.contains q)) then some (ts :: tss, m ++ m') else none
   | _, _ => none
def arith (op : BinOp) (k : IntKind) (a b : Int) (kk : AV Γ → Option β) : Option β :=
 match op with
 | .add => kk (.int k (k.wrap (a + b)))
 | .sub => kk (.int k (k.wrap (a - b)))
 | .mul => kk (.int k (k.wrap (a * b)))
 | .quo => bif decide (b = 0) then none else kk (.int k (k.wrap (a.tdiv b)))
 | .rem => bif decide (b = 0) then none else kk (.int k (a.tmod b))
 | .and => kk (.int k (k.wrap (BitVec.ofInt k.bits a &&& BitVec.ofInt k.bits b).toNat))
 | .or => kk (.int k (k.wrap (BitVec.ofInt k.bits a ||| BitVec.ofInt k.bits b).toNat))
 | .xor => kk (.int k (k.wrap (BitVec.ofInt k.bits a ^^^ BitVec.ofInt k.bits b).toNat))
 | .andNot => kk (.int k (k.wrap (BitVec.ofInt k.bits a &&& ~~~BitVec.ofInt k.bits b).toNat))
 | .eql => kk (.bool (a == b))
 | .neq => kk (.bool (a != b))
 | .lss => kk (.bool (decide (a < b)))
 | .leq => kk (.bool (decide (a ≤ b)))
 | .gtr => kk (.bool (decide (a > b)))
 | .geq => kk (.bool (decide (a ≥ b)))
 | _ => none
def Q31 (op : BinOp) (k : IntKind) (a b : Int) (kk : AV Γ → Option β) : Option β :=
 match op with
 | .shl => bif decide (b < 0) then none else kk (.int k (k.wrap (a * 2 ^ (min b.toNat k.bits))))
 | .shr => bif decide (b < 0) then none else kk (.int k (a.fdiv (2 ^ (min b.toNat k.bits))))
 | _ => none
def binop (op : BinOp) (x y : AV Γ) (kk : AV Γ → Option β) : Option β :=
 match x, y with
 | .int k a, .int k' b => match op with
   | .shl => Q31 .shl k a b kk
   | .shr => Q31 .shr k a b kk
   | op => if k = k' then arith op k a b kk else none
 | .str a, .str b => match op with
   | .eql => kk (.bool (a.toList == b.toList))
   | .neq => kk (.bool !(a.toList == b.toList))
   | .lss => kk (.bool (Op.bytesLess a.toList b.toList))
   | .gtr => kk (.bool !(Op.bytesLess a.toList b.toList || a.toList == b.toList))
   | .leq => kk (.bool (Op.bytesLess a.toList b.toList || a.toList == b.toList))
   | .geq => kk (.bool !(Op.bytesLess a.toList b.toList))
   | _ => none
 | _, _ => none
def Q2k (c : Ctx Γ K β) (t : TypeId) (op : BinOp) (x y : AV Γ) (kk : AV Γ → Option β) : Option β :=
 match x with
 | .bool a => match y with
  | .bool b => bif c.isBool t then (match op with
    | .eql => kk (.bool (a == b))
    | .neq => kk (.bool (!(a == b)))
    | _ => none) else none
  | _ => none
 | .vs i e xs => match y with
  | .nil => bif c.isSl t then (match op with
    | .eql => bif xs.length.beq 0 then kk .unk else kk (.bool false)
    | .neq => bif xs.length.beq 0 then kk .unk else kk (.bool true)
    | _ => none) else none
  | _ => none
 | x => binop op x y kk
def unop (op : UnOp) (x : AV Γ) (kk : AV Γ → Option β) : Option β :=
 match op, x with
 | .not, .bool b => kk (.bool !b)
 | .neg, .int k n => kk (.int k (k.wrap (0 - n)))
 | .xor, .int k n => kk (.int k (k.wrap (BitVec.ofInt k.bits (if k.signed then -1 else k.max) ^^^ BitVec.ofInt k.bits n).toNat))
 | _, _ => none
def loadAt (c : Ctx Γ K β) (loc : Nat → LV Γ) (t : TypeId) (a : AV Γ) (kk : AV Γ → Option β) : Option β :=
 match a with
 | .vp cs => bif c.isAgg t then (bif (c.size t).ble cs.length then kk (.agg (shT.shL (cs.take (c.size t)))) else none) else bif c.isOne t then (match cs with | x :: _ => kk (shT x) | [] => none) else none
 | .ptr b off => match loc b with
   | .box _ cs => bif c.isAgg t then (bif (off + c.size t).ble cs.length then kk (.agg ((cs.drop off).take (c.size t))) else none) else bif c.isOne t then (match cs[off]? with | some x => kk x | none => none) else none
   | _ => none
 | .er r g i off => match loc r with
   | .row g' inner e xs => bif g.beq g' && (!inner || c.X.flat e) then xs[i]?.bind fun x =>
     let cs := (K.enc e inner x).drop off
     bif c.isAgg t then (bif (c.size t).ble cs.length then kk (.agg (shT.shL (cs.take (c.size t)))) else none) else bif c.isOne t then (match cs with | x :: _ => kk (shT x) | [] => none) else none
    else none
   | _ => none
 | _ => none
def splice {α : Type} (off : Nat) (new old : List α) : List α := old.take off ++ new ++ old.drop (off + new.length)
def Q2I (c : Ctx Γ K β) (loc : Nat → LV Γ) (n : Nat) (t : TypeId) (a : AV Γ) (kk : Act Γ → Option β) : Option β :=
 match a with
 | .er r g i off => match loc r with
   | .row g' true e xs => bif g.beq g' && c.isOne t then xs[i]?.bind fun x => match (K.enc e true x)[off]? with
     | some (.sl true true e' ys) => kk ⟨.sl n 0, [(n, .row 0 true e' ys), (r, .hrow g e xs x i off n)]⟩
     | _ => none
    else none
   | _ => none
 | _ => none
def takes (c : Ctx Γ K β) (loc : Nat → LV Γ) (t : TypeId) (a : AV Γ) : Bool :=
 match a with
 | .er r _ _ _ => match loc r with
   | .row _ true e _ => !(c.X.flat e) && c.isSl t
   | _ => false
 | _ => false
def Q2t (K : Cod Γ) (loc : Nat → LV Γ) (r : Nat) : Option (List (Nat × LV Γ)) :=
 match loc r with
 | .hrow g e xs x i off n => match loc n with
   | .row _ true e' ys => bif (off + 1).ble (K.sz e) && !(n.beq r) then (match K.dec e true (splice off [.sl true true e' ys] (K.enc e true x)) with
     | some y => some [(r, .row g true e (xs.set i y)), (n, .dead)]
     | none => none) else none
   | _ => none
 | _ => none
def closeAll (K : Cod Γ) : List Nat → (Nat → LV Γ) → Nat → LV Γ
 | [], loc => loc
 | r :: rs, loc => closeAll K rs (match Q2t K loc r with | some u => Qp loc u | none => loc)
def storeAt (c : Ctx Γ K β) (st : St Γ) (n : Nat) (t : TypeId) (a v : AV Γ) (kk : Act Γ → Option β) : Option β :=
 match a with
 | .ptr b off => match st.loc b with
   | .box bt cs => Q1W c n t v fun act => bif act.val.cellsOk && act.val.cellsOf.length.beq (c.size t) && Nat.ble 1 (c.size t) && (off + c.size t).ble cs.length then kk ⟨.undef, (b, .box bt (splice off act.val.cellsOf cs)) :: act.upd⟩ else none
   | _ => none
 | .er r g i off => match st.loc r with
   | .row g' inner e xs => bif g.beq g' then xs[i]?.bind fun x =>
     match toT st.loc inner v.cellsOf with
     | some (ts, m) => bif ts.length.beq (c.size t) && Nat.ble 1 (c.size t) && (off + c.size t).ble (K.sz e) && !(m.contains r) then
       match K.dec e inner (splice off ts (K.enc e inner x)) with
       | some y => kk ⟨.undef, (r, .row g inner e (xs.set i y)) :: kill m⟩
       | none => none
      else none
     | none => none
    else none
   | _ => none
 | _ => none
def indexAt (c : Ctx Γ K β) (loc : Nat → LV Γ) (t : TypeId) (x i : AV Γ) (kk : AV Γ → Option β) : Option β :=
 match i with
 | .int _ i => match x with
  | .vs inner e xs => bif c.elemIs t e then (at? xs i).bind fun x => kk (.vp (K.enc e inner x)) else none
  | .sl r g => match loc r with
    | .row g' _ e xs => bif g.beq g' && c.elemIs t e then (at? xs i).bind fun _ => kk (.er r g i.toNat 0) else none
    | .frow g' inner e xs => bif g.beq g' && c.elemIs t e then (at? xs i).bind fun x => kk (.vp (K.enc e inner x)) else none
    | _ => none
  | .sv r g off len => match loc r with
    | .row g' _ e _ => bif g.beq g' && c.elemIs t e then (bif decide (0 ≤ i ∧ i < (len : Int)) then kk (.er r g (off + i.toNat) 0) else none) else none
    | _ => none
  | _ => none
 | _ => none
def lowB (lo : Option (AV Γ)) (h : Nat) (kk : Nat → Nat → Option β) : Option β :=
 match lo with
 | none => kk 0 h
 | some (.int _ l) => bif decide (0 ≤ l ∧ l ≤ (h : Int)) then kk l.toNat h else none
 | _ => none
def bounds (len : Nat) (lo hi : Option (AV Γ)) (kk : Nat → Nat → Option β) : Option β :=
 match hi with
 | none => lowB lo len kk
 | some (.int _ h) => bif decide (0 ≤ h ∧ h ≤ (len : Int)) then lowB lo h.toNat kk else none
 | _ => none
def Q2g (c : Ctx Γ K β) (loc : Nat → LV Γ) (t : TypeId) (x : AV Γ) (lo hi : Option (AV Γ)) (kk : AV Γ → Option β) : Option β :=
 match x with
 | .str s => bif c.isStr t then bounds s.size lo hi fun l h => kk (.str (s.extract l h)) else none
 | .vs inner e xs => bif c.elemIs t e then bounds xs.length lo hi fun l h => kk (.vs inner e ((xs.take h).drop l)) else none
 | .sl r g => match loc r with
   | .row g' _ e xs => bif g.beq g' && c.elemIs t e then bounds xs.length lo hi fun l h => kk (.sv r g l (h - l)) else none
   | .frow g' inner e xs => bif g.beq g' && c.elemIs t e then bounds xs.length lo hi fun l h => kk (.vs inner e ((xs.take h).drop l)) else none
   | _ => none
 | .sv r g off len => match loc r with
   | .row g' _ e _ => bif g.beq g' && c.elemIs t e then bounds len lo hi fun l h => kk (.sv r g (off + l) (h - l)) else none
   | _ => none
 | _ => none
def lenOf (c : Ctx Γ K β) (loc : Nat → LV Γ) (t : TypeId) (x : AV Γ) (kk : AV Γ → Option β) : Option β :=
 match x with
 | .str s => bif c.isStr t then kk (.int .i64 s.size) else none
 | .vs _ _ xs => bif c.isSl t then kk (.int .i64 xs.length) else none
 | .sl r g => bif c.isSl t then (match loc r with
   | .row g' _ _ xs => bif g.beq g' then kk (.int .i64 xs.length) else none
   | .frow g' _ _ xs => bif g.beq g' then kk (.int .i64 xs.length) else none
   | _ => none) else none
 | .sv _ _ _ len => bif c.isSl t then kk (.int .i64 len) else none
 | .nil => bif c.isSl t then kk (.int .i64 0) else none
 | _ => none
def chunks {α : Type _} (sz : Nat) : Nat → List α → List (List α)
 | 0, _ => []
 | k + 1, l => l.take sz :: chunks sz k (l.drop sz)
def Q28 (c : Ctx Γ K β) (loc : Nat → LV Γ) (r : Nat) (inner : Bool) (e : TypeId) (x : AV Γ) (kk : List (Γ e) → List Nat → Option β) : Option β :=
 match x with
 | .vs i e' ys => if h : e' = e then (bif c.X.flat e || (!inner && !i) then kk (h ▸ ys) [] else none) else none
 | .sl q g => match loc q with
   | .row g' i e' ys => if h : e' = e then (bif g.beq g' && !(q.beq r) && (i == inner || c.X.flat e) then kk (h ▸ ys) (bif inner && !(c.X.flat e) then [q] else []) else none) else none
   | .frow g' i e' ys => if h : e' = e then (bif g.beq g' && (c.X.flat e || (!inner && !i)) then kk (h ▸ ys) [] else none) else none
   | _ => none
 | .sv q g off len => match loc q with
   | .row g' i e' ys => if h : e' = e then (bif g.beq g' && (c.X.flat e || (!inner && !i)) then kk (h ▸ ((ys.drop off).take len)) [] else none) else none
   | _ => none
 | .lit e' k cs => if e' = e then (match toTs loc inner (chunks (K.sz e) k cs) with
   | some (tss, m) => bif !(m.contains r) then decs K e inner tss fun ys => kk ys m else none
   | none => none) else none
 | _ => none
def limOk (c : Ctx Γ K β) (e : TypeId) (n : Nat) : Bool := match c.ty e with | some i => Nat.ble 1 i.bytes && decide (n * i.bytes ≤ 140737488355328) | none => false
def append (c : Ctx Γ K β) (st : St Γ) (n : Nat) (t : TypeId) (s x : AV Γ) (kk : Act Γ → Option β) : Option β :=
 match s with
 | .sl r g => match st.loc r with
   | .row g' inner e xs => bif g.beq g' && (c.elem t == some e) then Q28 c st.loc r inner e x fun ys m =>
     bif limOk c e (xs.length + ys.length) then kk ⟨.sl n 0, (n, .row 0 inner e (xs ++ ys)) :: kill (r :: m)⟩ else none
    else none
   | _ => none
 | .nil => match c.elem t with
   | some e => Q28 c st.loc n (c.inner e) e x fun ys m =>
     bif limOk c e ys.length then kk ⟨.sl n 0, (n, .row 0 (c.inner e) e ys) :: kill m⟩ else none
   | none => none
 | _ => none
def Q29 (mx : Bool) : AV Γ → List (AV Γ) → (AV Γ → Option β) → Option β
 | .int k a, [], kk => kk (.int k a)
 | .int k a, .int k' b :: r, kk => if k = k' then Q29 mx (.int k (bif mx then (if b > a then b else a) else (if b < a then b else a))) r kk else none
 | _, _, _ => none
def bytesOf (c : Ctx Γ K β) (loc : Nat → LV Γ) (t : TypeId) (x : AV Γ) (kk : List Int → Option β) : Option β :=
 match x with
 | .vs _ e xs => match c.X.num e with | some (.u8, f) => bif c.elemIs t e then kk (xs.map f) else none | _ => none
 | .sl r g => match loc r with
   | .row g' _ e xs => match c.X.num e with | some (.u8, f) => bif g.beq g' && c.elemIs t e then kk (xs.map f) else none | _ => none
   | .frow g' _ e xs => match c.X.num e with | some (.u8, f) => bif g.beq g' && c.elemIs t e then kk (xs.map f) else none | _ => none
   | _ => none
 | .sv r g off len => match loc r with
   | .row g' _ e xs => match c.X.num e with | some (.u8, f) => bif g.beq g' && c.elemIs t e then kk (((xs.drop off).take len).map f) else none | _ => none
   | _ => none
 | _ => none
def Q2a (xs : List Int) : ByteArray := ⟨(xs.map fun x => UInt8.ofNat x.toNat).toArray⟩
def memN (i : Nat) : List Nat → Bool
 | [] => false
 | j :: js => i.beq j || memN i js
def disj : List Nat → List Nat → Bool
 | [], _ => true
 | i :: is, b => !(memN i b) && disj is b
def mapO {α α' : Type} (f : α → Option (α' × List Nat)) : List α → Option (List α' × List Nat)
 | [] => some ([], [])
 | v :: vs => match f v with
   | some (t, m) => match mapO f vs with
    | some (ts, m') => some (t :: ts, m ++ m')
    | none => none
   | none => none
def mapD {α α' : Type} (f : α → Option (α' × List Nat)) : List α → Option (List α' × List Nat)
 | [] => some ([], [])
 | v :: vs => match f v with
   | some (t, m) => match mapD f vs with
    | some (ts, m') => bif disj m m' then some (t :: ts, m ++ m') else none
    | none => none
   | none => none
def lend (loc : Nat → LV Γ) : Nat → AV Γ → Option (T Γ × List Nat)
 | 0, _ => none
 | f + 1, v => match v with
  | .int k n => some (.int k n, [])
  | .bool b => some (.bool b, [])
  | .str s => some (.str s, [])
  | .vs i e xs => some (.sl false false e xs, [])
  | .vp cs => some (.ptr false 0 cs, [])
  | .sl r g => match loc r with
    | .row g' i e xs => bif g.beq g' then some (.sl false false e xs, [r]) else none
    | .frow g' i e xs => bif g.beq g' then some (.sl false false e xs, []) else none
    | _ => none
  | .sv r g off len => match loc r with
    | .row g' i e xs => bif g.beq g' then some (.sl false false e ((xs.drop off).take len), [r]) else none
    | _ => none
  | .ptr b 0 => match loc b with
    | .box t cs => match mapO (lend loc f) cs with | some (ts, m) => some (.ptr false t ts, b :: m) | none => none
    | _ => none
  | .fn g caps => match mapO (lend loc f) caps with | some (ts, m) => some (.fn g ts, m) | none => none
  | _ => none
def plainV : AV Γ → Option (T Γ)
 | .int k n => some (.int k n)
 | .bool b => some (.bool b)
 | .str s => some (.str s)
 | .vs i e xs => some (.sl false i e xs)
 | _ => none
def plainL : List (AV Γ) → Option (List (T Γ))
 | [] => some []
 | v :: vs => match plainV v with
   | some t => match plainL vs with
    | some ts => some (t :: ts)
    | none => none
   | none => none
def allB {α : Type} (f : α → Bool) : List α → Bool
 | [] => true
 | x :: xs => f x && allB f xs
def ownT (loc : Nat → LV Γ) : AV Γ → Option (T Γ × List Nat)
 | .int k n => some (.int k n, [])
 | .bool b => some (.bool b, [])
 | .str s => some (.str s, [])
 | .vs i e xs => some (.sl false i e xs, [])
 | .sl r g => match loc r with
   | .row g' i e xs => bif g.beq g' then some (.sl true i e xs, [r]) else none
   | .frow g' i e xs => bif g.beq g' then some (.sl false i e xs, []) else none
   | _ => none
 | .sv r g 0 len => match loc r with
   | .row g' i e xs => bif g.beq g' then some (.sl true i e (xs.take len), [r]) else none
   | _ => none
 | .fn f [] => some (.fn f [], [])
 | .ptr b 0 => match loc b with
   | .box t cs => match plainL cs with
    | some ts => some (.ptr true t ts, [b])
    | none => none
   | _ => none
 | _ => none
def lendV (loc : Nat → LV Γ) : AV Γ → Option (TV Γ × List Nat)
 | .agg cs => match mapO (lend loc 4) cs with | some (ts, m) => some (.agg ts, m) | none => none
 | v => match lend loc 4 v with | some (t, m) => some (.one t, m) | none => none
def ownV (loc : Nat → LV Γ) : AV Γ → Option (TV Γ × List Nat)
 | .agg cs => match mapD (ownT loc) cs with | some (ts, m) => some (.agg ts, m) | none => none
 | v => match ownT loc v with | some (t, m) => some (.one t, m) | none => none
def Q2b (loc : Nat → LV Γ) : List Mode → List (AV Γ) → Option (List (TV Γ) × List Nat × List Nat)
 | [], [] => some ([], [], [])
 | .lend :: ms, v :: vs => match lendV loc v, Q2b loc ms vs with
   | some (t, m), some (ts, o, l) => some (t :: ts, o, m ++ l)
   | _, _ => none
 | _ :: ms, v :: vs => match ownV loc v, Q2b loc ms vs with
   | some (t, m), some (ts, o, l) => bif disj m o then some (t :: ts, m ++ o, l) else none
   | _, _ => none
 | _, _ => none
def impT (n : Nat) : T Γ → AV Γ × List (Nat × LV Γ) × Nat
 | .sl true i e xs => (.sl n 0, [(n, .row 0 i e xs)], n + 1)
 | .ptr true t ts => bif allB T.plain ts then (.ptr n 0, [(n, .box t (shT.shL ts))], n + 1) else (.undef, [], n)
 | t => (shT t, [], n)
def impL (n : Nat) : List (T Γ) → List (AV Γ) × List (Nat × LV Γ) × Nat
 | [] => ([], [], n)
 | t :: ts => let r := impT n t; let q := impL r.2.2 ts; (r.1 :: q.1, q.2.1 ++ r.2.1, q.2.2)
def imp1 (n : Nat) : TV Γ → AV Γ × List (Nat × LV Γ) × Nat
 | .one t => impT n t
 | .agg ts => let r := impL n ts; (.agg r.1, r.2)
 | .tup _ => (.undef, [], n)
def impVs (n : Nat) : List (TV Γ) → List (AV Γ) × List (Nat × LV Γ) × Nat
 | [] => ([], [], n)
 | v :: vs => let r := imp1 n v; let q := impVs r.2.2 vs; (r.1 :: q.1, q.2.1 ++ r.2.1, q.2.2)
def impV (n : Nat) : TV Γ → AV Γ × List (Nat × LV Γ) × Nat
 | .tup vs => let r := impVs n vs; (.tup r.1, r.2)
 | v => imp1 n v
def anyB {α : Type} (f : α → Bool) : List α → Bool
 | [] => false
 | x :: xs => f x || anyB f xs
def sharesTV (flat : TypeId → Bool) : TV Γ → Bool
 | .one t => Q2S flat t
 | .agg ts => anyB (Q2S flat) ts
 | .tup _ => true
def sharesV (flat : TypeId → Bool) : TV Γ → Bool
 | .tup vs => anyB (sharesTV flat) vs
 | v => sharesTV flat v
def absT (loc : Nat → LV Γ) : AV Γ → T Γ → Option (List (Nat × LV Γ))
 | .sl r g, .sl true i e xs => match loc r with
   | .row g' _ e' _ => bif g.beq g' && e.beq e' then some [(r, .row g i e xs)] else none
   | _ => none
 | .ptr b 0, .ptr true t ts => match loc b with
   | .box _ _ => bif allB T.plain ts then some [(b, .box t (shT.shL ts))] else none
   | _ => none
 | _, .sl true _ _ _ => none
 | _, .ptr true _ _ => none
 | _, _ => some []
def absL (loc : Nat → LV Γ) : List (AV Γ) → List (T Γ) → Option (List (Nat × LV Γ))
 | [], [] => some []
 | v :: vs, t :: ts => match absT loc v t, absL loc vs ts with | some u, some u' => some (u ++ u') | _, _ => none
 | _, _ => none
def absB (loc : Nat → LV Γ) : AV Γ → TV Γ → Option (List (Nat × LV Γ))
 | v, .one t => absT loc v t
 | .agg vs, .agg ts => absL loc vs ts
 | _, _ => none
def Q2n (loc : Nat → LV Γ) : List (AV Γ) → List (Option (TV Γ)) → Option (List (Nat × LV Γ))
 | [], [] => some []
 | _ :: vs, none :: ts => Q2n loc vs ts
 | v :: vs, some t :: ts => match absB loc v t, Q2n loc vs ts with | some u, some u' => some (u ++ u') | _, _ => none
 | _, _ => none
def nodupB : List Nat → Bool
 | [] => true
 | i :: is => !(memN i is) && nodupB is
def sharesO (flat : TypeId → Bool) : Option (TV Γ) → Bool
 | none => false
 | some v => sharesTV flat v
def boxF (n : Nat) (t : TypeId) (g : Nat) (args : List (AV Γ)) (kk : Act Γ → Option β) : Option β :=
 match args with
 | [v] => bif v.cellsOk then kk ⟨.fn g [.ptr n 0], [(n, .box t v.cellsOf)]⟩ else none
 | _ => none
def callF (c : Ctx Γ K β) (st : St Γ) (n : Nat) (f : Nat) (args : List (AV Γ)) (kk : Act Γ → Option β) : Option β :=
 match c.G f with
 | none => none
 | some cal => match cal.boxer with
  | some (t, g) => boxF n t g args kk
  | none => match Q2b st.loc cal.modes args with
   | none => none
   | some (tvs, o, l) => bif disj o l then cal.sem tvs fun r =>
     bif (sharesV c.X.flat r.1 || anyB (sharesO c.X.flat) r.2) && !(l.isEmpty) then none else
     match Q2n st.loc args r.2 with
     | none => none
     | some u => let q := impV n r.1; bif q.2.2.ble (n + 32) && u.all (fun p => memN p.1 o) && nodupB (u.map (·.1)) then kk ⟨q.1, q.2.1 ++ (u ++ kill o)⟩ else none
    else none
def Q2B (c : Ctx Γ K β) (st : St Γ) : Nat → List Operand → List TypeId → (List (AV Γ) → List (Nat × LV Γ) → Option β) → Option β
 | _, [], _, kk => kk [] []
 | n, x :: xs, t :: ts, kk => Q1W c n t (st.ev x) fun a => Q2B c st (n + 1) xs ts fun vs u => kk (a.val :: vs) (u ++ a.upd)
 | _, _, _, _ => none
def Q2u (c : Ctx Γ K β) (st : St Γ) (n : Nat) (cl : Call) (kk : Act Γ → Option β) : Option β :=
 match cl.callee with
 | .builtin .len => match cl.args.toList, cl.argTypes.toList with | [x], [t] => lenOf c st.loc t (st.ev x) fun v => kk ⟨v, []⟩ | _, _ => none
 | .builtin .append => match cl.args.toList, cl.argTypes.toList with
   | [s, x], [t, t'] => bif t.beq t' then append c st n t (st.ev s) (st.ev x) kk else none
   | _, _ => none
 | .builtin .max => match cl.args.toList.map st.ev with | x :: r => Q29 true x r fun v => kk ⟨v, []⟩ | [] => none
 | .builtin .min => match cl.args.toList.map st.ev with | x :: r => Q29 false x r fun v => kk ⟨v, []⟩ | [] => none
 | .builtin _ => none
 | .invoke _ _ => none
 | .value f => match st.ev f with
   | .fn g caps => bif cl.args.toList.length.ble 30 then Q2B c st (n + 32) cl.args.toList cl.argTypes.toList (fun vs u =>
     callF c { st with loc := Qp st.loc u } n g (vs ++ caps) fun a => kk ⟨a.val, a.upd ++ u⟩) else none
   | _ => none
def Q3a (fs : List (Nat × Nat × Bool)) : List (Nat × List (AV Γ)) → List (AV Γ) → Option (List (AV Γ))
 | [], cells => some cells
 | (i, v) :: rest, cells => match fs[i]? with
   | some (off, sz, _) => bif v.length.beq sz && (off + sz).ble cells.length then Q3a fs rest (splice off v cells) else none
   | none => none
def partsOf (st : St Γ) : List (Nat × Operand) → Option (List (Nat × List (AV Γ)))
 | [] => some []
 | (i, x) :: r => bif (st.ev x).cellsOk then (match partsOf st r with | some vs => some ((i, (st.ev x).cellsOf) :: vs) | none => none) else none
def sameOp : Operand → Operand → Bool
 | .tmp i, .tmp j => i.beq j
 | .const (.int _ a), .const (.int _ b) => decide (a = b)
 | _, _ => false
def Q8 (c : Ctx Γ K β) (st : St Γ) (n : Nat) (o : Oper) (kk : Act Γ → Option β) : Option β :=
 match o.op with
 | .move x => Q1W c n o.type (st.ev x) kk
 | .assign x => Q1W c n o.type (st.ev x) kk
 | .pick x a b => match st.ev x with | .bool t => bif t then Q1W c n o.type (st.ev a) kk else Q1W c n o.type (st.ev b) kk | _ => none
 | .alloc t => match c.ty t with | some i => bif i.zero.length.ble 60 then (let z := Q2f c (n + 1) i.zero; kk ⟨.ptr n 0, (n, .box t z.1) :: z.2⟩) else none | none => none
 | .box t x => Q1W c (n + 1) t (st.ev x) fun a => bif a.val.cellsOk && a.val.cellsOf.length.beq (c.size t) then kk ⟨.ptr n 0, (n, .box t a.val.cellsOf) :: a.upd⟩ else none
 | .build t parts => match c.ty t with
   | some { kind := .agg fs, zero, .. } => bif zero.length.ble 60 then (let z := Q2f c n zero
     match partsOf st parts.toList with
     | some vs => match Q3a fs vs z.1 with | some cs => kk ⟨.agg cs, z.2⟩ | none => none
     | none => none) else none
   | _ => none
 | .buildSlice t len parts => match c.elem t with
   | some e => bif parts.toList.length.beq len && (parts.toList.map (·.1) == List.range len) && Nat.ble (len * K.sz e) 10000 then
     let els := parts.toList.map fun p => (st.ev p.2).cellsOf
     bif c.lits && els.any hasSl then (bif parts.toList.all (fun p => (st.ev p.2).cellsOk && (st.ev p.2).cellsOf.length.beq (K.sz e)) then kk ⟨.lit e len els.flatten, []⟩ else none) else
     let inner := bif els.any hasVs then false else bif els.any hasSl then true else c.inner e
     match toTs st.loc inner els with
     | some (tss, m) => decs K e inner tss fun xs => kk ⟨.sl n 0, (n, .row 0 inner e xs) :: kill m⟩
     | none => none
    else none
   | none => none
 | .load t a => bif takes c st.loc t (st.ev a) then Q2I c st.loc n t (st.ev a) kk else loadAt c st.loc t (st.ev a) fun v => kk ⟨v, []⟩
 | .store t a x => storeAt c st n t (st.ev a) (st.ev x) kk
 | .nilCheck x => match st.ev x with | .ptr b off => kk ⟨.ptr b off, []⟩ | .vp cs => kk ⟨.vp cs, []⟩ | .er r g i off => kk ⟨.er r g i off, []⟩ | _ => none
 | .binOp op t x y _ => Q2k c t op (st.ev x) (st.ev y) fun v => kk ⟨v, []⟩
 | .unOp op _ x => unop op (st.ev x) fun v => kk ⟨v, []⟩
 | .convert src dst x => match c.ty dst, st.ev x with
   | some { kind := .int k, .. }, .int _ a => bif (c.ty src).isSome then kk ⟨.int k (k.wrap a), []⟩ else none
   | some { kind := .str, .. }, v => bif c.isU8s src then bytesOf c st.loc src v (fun bs => kk ⟨.str (Q2a bs), []⟩) else none
   | some { kind := .sl e, .. }, .str s => bif c.isU8s dst && (c.ty src).isSome then (match c.X.ofNum e with | some (.u8, h) => kk ⟨.vs false e (s.data.toList.map fun b => h (b.toNat : Int)), []⟩ | _ => none) else none
   | _, _ => none
 | .makeFunc (.func f) first captured => bif first.isEmpty && (captured.toList.map st.ev).all (fun v => match v with | .undef => false | .agg _ => false | .tup _ => false | _ => true) then kk ⟨.fn f (captured.toList.map st.ev), []⟩ else none
 | .makeSlice t l cp => match c.elem t, st.ev l, st.ev cp with
   | some e, .int _ a, .int _ b => bif sameOp l cp then (bif decide (0 ≤ a) && limOk c e a.toNat then kk ⟨.sl n 0, [(n, .row 0 (c.inner e) e (List.replicate a.toNat (c.X.zero e)))]⟩ else none) else none
   | _, _, _ => none
 | .slice t x lo hi none => Q2g c st.loc t (st.ev x) (lo.map st.ev) (hi.map st.ev) fun v => kk ⟨v, []⟩
 | .fieldAddr t x f => match c.field t f with
   | some (off, _, _) => match st.ev x with
    | .ptr b q => kk ⟨.ptr b (q + off), []⟩
    | .er r g i q => kk ⟨.er r g i (q + off), []⟩
    | .vp cs => kk ⟨.vp (cs.drop off), []⟩
    | _ => none
   | none => none
 | .field t x f => match c.field t f, st.ev x with
   | some (off, sz, true), .agg cs => bif (off + sz).ble cs.length then kk ⟨.agg ((cs.drop off).take sz), []⟩ else none
   | some (off, _, false), .agg cs => match cs[off]? with | some v => kk ⟨v, []⟩ | none => none
   | _, _ => none
 | .indexAddr t x i => match st.ev x with
   | .sl r g => match Q2t K st.loc r with
     | some u => indexAt c (Qp st.loc u) t (.sl r g) (st.ev i) fun v => kk ⟨v, u⟩
     | none => indexAt c st.loc t (.sl r g) (st.ev i) fun v => kk ⟨v, []⟩
   | v => indexAt c st.loc t v (st.ev i) fun v => kk ⟨v, []⟩
 | .index t x i => match st.ev x, st.ev i with
   | .str s, .int _ i => bif c.isStr t then (at? s.data.toList i).bind fun b => kk ⟨.int .u8 b.toNat, []⟩ else none
   | _, _ => none
 | .extract x i => match st.ev x with | .tup vs => (match vs[i]? with | some v => kk ⟨v, []⟩ | none => none) | _ => none
 | .call cl => Q2u c st n cl kk
 | _ => none
def dstIn (dst : Option Nat) (keep : List Nat) : Bool := match dst with | some d => memN d keep | none => false
def dstOf (all : Array Oper) (j : Nat) : Option Nat := (all[j]?).bind (·.dst)
def region (c : Ctx Γ K β) (all : Array Oper) : Nat → List Oper → St Γ → (St Γ → Option β) → Option β
 | _, [], st, kk => kk st
 | i, o :: os, st, kk => bif dstIn o.dst c.keep then none else match o.guard with
   | none => Q8 c st (st.nx + 64 * i) o fun a => region c all (i + 1) os (st.put o.dst a) kk
   | some (j, want) => match dstOf all j with
     | none => none
     | some d => match st.get d with
       | .tup [] => region c all (i + 1) os (st.put o.dst ⟨.tup [], []⟩) kk
       | .bool b =>
         let yes (st : St Γ) := Q8 c st (st.nx + 64 * i) o fun a => region c all (i + 1) os (st.put o.dst a) kk
         let no (st : St Γ) := region c all (i + 1) os (st.put o.dst ⟨.tup [], []⟩) kk
         let s1 : St Γ := { st with slots := st.slots.set d (.bool true) }
         let s0 : St Γ := { st with slots := st.slots.set d (.bool false) }
         bif b then (bif want then yes s1 else no s1) else (bif want then no s0 else yes s0)
       | _ => none
mutual
def idsOf : AV Γ → List Nat
 | .sl r _ => [r]
 | .sv r _ _ _ => [r]
 | .ptr b _ => [b]
 | .er r _ _ _ => [r]
 | .agg cs => idsL cs
 | .lit _ _ cs => idsL cs
 | .tup vs => idsL vs
 | .fn _ caps => idsL caps
 | _ => []
def idsL : List (AV Γ) → List Nat
 | [] => []
 | v :: vs => idsOf v ++ idsL vs
end
def boxIds (loc : Nat → LV Γ) (r : Nat) : List Nat := match loc r with | .box _ cs => idsL cs | .hrow _ _ _ _ _ _ n => [n] | _ => []
def reach (loc : Nat → LV Γ) : Nat → List Nat → List Nat → List Nat
 | 0, _, seen => seen
 | _, [], seen => seen
 | f + 1, r :: rs, seen => bif memN r seen then reach loc f rs seen else reach loc f (boxIds loc r ++ rs) (seen ++ [r])
def maskL (F : List Nat) (l : Nat → LV Γ) : Nat → LV Γ := fun r => bif memN r F then l r else .dead
def maskS (lk : List Nat) (slots : List (AV Γ)) : List (AV Γ) := (List.range slots.length).map fun t => bif memN t lk then slots.getD t .undef else .undef
def mask (lk F : List Nat) (st : St Γ) : St Γ := { slots := maskS lk st.slots, loc := maskL F st.loc, nx := st.nx }
structure Rec where
 i : Nat
 dst : Option Nat
 lk : List Nat
 F : List Nat
 ids : List Nat
 anc : Nat
def bitN (m i : Nat) : Bool := (Nat.land 1 (Nat.shiftRight m i)).beq 1
def disjO (d : Option Nat) (l : List Nat) : Bool := match d with | some d => !(memN d l) | none => true
def apartO : Option Nat → Option Nat → Bool
 | some d, some d' => !(d.beq d')
 | _, _ => true
def indep (x y : Rec) : Bool := disjO x.dst y.lk && disjO y.dst x.lk && apartO x.dst y.dst && disj x.ids y.F && disj y.ids x.F && disj x.ids y.ids
def ancAt (recs : List Rec) (j : Nat) : Nat := match recs.find? (fun r => r.i.beq j) with | some r => r.anc | none => 0
def ancOf (recs : List Rec) (o : Oper) : Nat := o.after.toList.foldr (fun e m => bif Region.binds .any e then Nat.lor (Nat.lor (Nat.shiftLeft 1 e.on) (ancAt recs e.on)) m else m) 0
def edgesOk (i : Nat) (o : Oper) : Bool := o.after.toList.all fun e => !(Region.binds .any e) || Nat.blt e.on i
def okNew (recs : List Rec) (x : Rec) : Bool := recs.all fun r => bitN x.anc r.i || indep r x
def footOf (loc : Nat → LV Γ) (o : Oper) (rs : List Nat) : List Nat :=
 match o.op with
 | .move _ => []
 | .assign _ => []
 | .fieldAddr _ _ _ => []
 | .extract _ _ => []
 | .load _ _ => rs
 | .store _ _ _ => rs
 | _ => reach loc 300 rs []
def Q1Y (c : Ctx Γ K β) (all : Array Oper) : Nat → List Oper → List Rec → St Γ → (St Γ → Option β) → Option β
 | _, [], _, st, kk => kk st
 | i, o :: os, recs, st, kk => bif dstIn o.dst c.keep then none else bif edgesOk i o then
   let lk := o.looksAt all
   let F := footOf st.loc o (lk.flatMap fun t => idsOf (st.get t))
   let anc := ancOf recs o
   let go (st : St Γ) (a : Act Γ) : Option β :=
    let x : Rec := ⟨i, o.dst, lk, F, a.upd.map (·.1), anc⟩
    bif okNew recs x then Q1Y c all (i + 1) os (recs ++ [x]) (st.put o.dst a) kk else none
   match o.guard with
   | none => Q8 c (mask lk F st) (st.nx + 64 * i) o (go st)
   | some (j, want) => match dstOf all j with
     | none => none
     | some d => bif memN d lk then (match st.get d with
       | .tup [] => go st ⟨.tup [], []⟩
       | .bool b =>
         let s1 : St Γ := { st with slots := st.slots.set d (.bool true) }
         let s0 : St Γ := { st with slots := st.slots.set d (.bool false) }
         bif b then (bif want then Q8 c (mask lk F s1) (st.nx + 64 * i) o (go s1) else go s1 ⟨.tup [], []⟩)
         else (bif want then go s0 ⟨.tup [], []⟩ else Q8 c (mask lk F s0) (st.nx + 64 * i) o (go s0))
       | _ => none) else none
  else none
inductive KI where
 | code (c : Code)
 | blk (id : Nat)
 | lp (c : Code)
 | jn (c : Code)
def popTo (id : Nat) : List KI → Option (List KI)
 | [] => none
 | .blk j :: k => bif id.beq j then some k else popTo id k
 | _ :: k => popTo id k
def Q2v : Code → Nat
 | .region id _ _ => id
 | .seq a _ => Q2v a
 | .block _ b => Q2v b
 | .loop b => Q2v b
 | _ => 0
def locOf (ls : List (LV Γ)) : Nat → LV Γ := fun i => match ls[i]? with | some l => l | none => .dead
def idx (r : Nat) : List Nat → Nat
 | [] => 0
 | j :: js => bif r.beq j then 0 else idx r js + 1
def ageOk (loc : Nat → LV Γ) (r g : Nat) : Bool := match loc r with | .row g' _ _ _ => g.beq g' | .frow g' _ _ _ => g.beq g' | _ => false
mutual
def ren (loc : Nat → LV Γ) (seen : List Nat) : AV Γ → AV Γ
 | .sl r g => bif ageOk loc r g && memN r seen then .sl (idx r seen) 0 else .undef
 | .sv r g off len => bif ageOk loc r g && memN r seen then .sv (idx r seen) 0 off len else .undef
 | .er r g i off => bif ageOk loc r g && memN r seen then .er (idx r seen) 0 i off else .undef
 | .ptr b off => bif memN b seen then .ptr (idx b seen) off else .undef
 | .agg cs => .agg (renL loc seen cs)
 | .lit e k cs => .lit e k (renL loc seen cs)
 | .tup vs => .tup (renL loc seen vs)
 | .fn f caps => .fn f (renL loc seen caps)
 | v => v
def renL (loc : Nat → LV Γ) (seen : List Nat) : List (AV Γ) → List (AV Γ)
 | [] => []
 | v :: vs => ren loc seen v :: renL loc seen vs
end
def renV (loc : Nat → LV Γ) (seen : List Nat) : LV Γ → LV Γ
 | .row _ i e xs => .row 0 i e xs
 | .frow _ i e xs => .frow 0 i e xs
 | .box t cs => .box t (renL loc seen cs)
 | .dead => .dead
 | .hrow .. => .dead
def norm0 (live : List Nat) (st : St Γ) : St Γ :=
  let seen := reach st.loc 1000 (live.flatMap fun t => idsOf (st.get t)) []
  { slots := (List.range st.slots.length).map fun t => bif memN t live then ren st.loc seen (st.get t) else .undef
    loc := locOf (seen.map fun r => renV st.loc seen (st.loc r))
    nx := seen.length }
def norm (K : Cod Γ) (live : List Nat) (st : St Γ) : St Γ :=
 norm0 live { st with loc := closeAll K (reach st.loc 1000 (live.flatMap fun t => idsOf (st.get t)) []) st.loc }
abbrev Key := List KI
open Classical in
noncomputable def both (a b : Option β) : Option β := if a = b then a else none
noncomputable def run (c : Ctx Γ K β) (fin : St Γ → Option β) (L : Key → St Γ → Option β) : Nat → List KI → St Γ → Option β
 | 0, _, _ => none
 | _ + 1, [], st => fin st
 | n + 1, .blk _ :: k, st => run c fin L n k st
 | _ + 1, .lp b :: k, st => L (.code b :: .lp b :: k) (norm K (c.live (Q2v b)) st)
 | _ + 1, .jn b :: k, st => L (.code b :: k) (norm K (c.live (Q2v b)) st)
 | n + 1, .code x :: k, st => match x with
   | .skip => run c fin L n k st
   | .region _ ops false => region c ops 0 ops.toList st fun st' => run c fin L n k { st' with nx := st'.nx + 64 * ops.size }
   | .region _ ops true => Q1Y c ops 0 ops.toList [] st fun st' => run c fin L n k { st' with nx := st'.nx + 64 * ops.size }
   | .seq a b => bif memN (Q2v b) c.cuts then run c fin L n (.code a :: .jn b :: k) st else run c fin L n (.code a :: .code b :: k) st
   | .cond x a b => match st.ev x with | .bool t => bif t then run c fin L n (.code a :: k) st else run c fin L n (.code b :: k) st | .unk => both (run c fin (fun _ _ => none) n (.code a :: k) st) (run c fin (fun _ _ => none) n (.code b :: k) st) | _ => none
   | .block id b => run c fin L n (.code b :: .blk id :: k) st
   | .loop b => L (.code b :: .lp b :: k) (norm K (c.live (Q2v b)) st)
   | .exit id => match popTo id k with | some k' => run c fin L n k' st | none => none
   | .ret => fin st
   | _ => none
noncomputable def Lk (c : Ctx Γ K β) (fin : St Γ → Option β) : Nat → Key → St Γ → Option β
 | 0, _, _ => none
 | k + 1, key, st => run c fin (Lk c fin k) 5000 key st
open Classical in
noncomputable def Lw (c : Ctx Γ K β) (fin : St Γ → Option β) (key : Key) (st : St Γ) : Option β :=
 if h : ∃ r, ∃ k, Lk c fin k key st = some r then some h.choose else none
def loops (cuts : List Nat) : Nat → Code → List KI → List Key
 | 0, _, _ => []
 | f + 1, c, k => match c with
  | .seq a b => bif memN (Q2v b) cuts then loops cuts f a (.jn b :: k) ++ ((.code b :: k) :: loops cuts f b k) else loops cuts f a (.code b :: k) ++ loops cuts f b k
  | .cond _ a b => loops cuts f a k ++ loops cuts f b k
  | .block id b => loops cuts f b (.blk id :: k)
  | .loop b => (.code b :: .lp b :: k) :: loops cuts f b (.lp b :: k)
  | _ => []
structure FnI (Γ : TypeId → Type) where
 modes : List Mode
 ntmps : Nat
 results : List ResultVar
 rms : List Mode
def start (fi : FnI Γ) (args : List (TV Γ)) : St Γ :=
 let p := impVs 0 args
 { slots := p.1 ++ List.replicate (fi.ntmps - p.1.length) (.tup []), loc := Qp (fun _ => .dead) p.2.1, nx := p.2.2 }
def keeps (st : St Γ) : Nat → List Mode → Option (List (Option (TV Γ)) × List Nat)
 | _, [] => some ([], [])
 | i, .keep :: ms => match ownV st.loc (st.get i), keeps st (i + 1) ms with
   | some (t, m), some (ts, m') => bif disj m m' then some (some t :: ts, m ++ m') else none
   | _, _ => none
 | i, _ :: ms => match keeps st (i + 1) ms with | some (ts, m) => some (none :: ts, m) | none => none
def packTV : List (TV Γ) → TV Γ
 | [t] => t
 | ts => .tup ts
def resAVs (c : Ctx Γ K β) (st : St Γ) : List ResultVar → (List (AV Γ) → Option β) → Option β
 | [], kk => kk []
 | .tmp t :: rs, kk => resAVs c st rs fun xs => kk (st.get t :: xs)
 | .cell a t :: rs, kk => loadAt c st.loc t (st.get a) fun v => resAVs c st rs fun xs => kk (v :: xs)
def finish (c : Ctx Γ K β) (fi : FnI Γ) (dec : Res Γ → Option β) (st : St Γ) : Option β :=
 resAVs c st fi.results fun rs => match Q2b st.loc fi.rms rs with
  | none => none
  | some (ts, m, l) => match keeps st 0 fi.modes with
   | none => none
   | some (ks, m') => bif disj m m' && disj l (m ++ m') then dec (packTV ts, ks) else none
noncomputable def callW (c : Ctx Γ K β) (fi : FnI Γ) (body : Code) (dec : Res Γ → Option β) (args : List (TV Γ)) : Option β :=
 run c (finish c fi dec) (Lw c (finish c fi dec)) 5000 [.code body] (start fi args)
end Go.Ev
/- The relation between a run's state and the machine's. -/
namespace Go.Ev
variable {Γ : TypeId → Type} {K : Cod Γ}
structure Rh (Γ : TypeId → Type) where
 A : Nat → Prop            -- blocks that are stable
 N : Nat → Prop            -- ids that may be named
 loc : Nat → LV Γ
 hdr : Nat → Value         -- of an id: its slice or pointer
def isSlice (v : Value) : Prop := ∃ a n c, v = .slice a n c
mutual
inductive VR (K : Cod Γ) (w : World) (R : Rh Γ) : AV Γ → Value → Prop
 | int (k n) : VR K w R (.int k n) (.int k n)
 | bool (b) : VR K w R (.bool b) (.bool b)
 | str (s) : VR K w R (.str s) (.string s)
 | nil : VR K w R .nil (.slice none 0 0)
 | vs {i e xs v} (h : Ro K w R.A (.sl false i e xs) v) : VR K w R (.vs i e xs) v
 | vp {cs v} (h : Ro K w R.A (.ptr false 0 cs) v) : VR K w R (.vp cs) v
 | sl {r g v} (hN : R.N r) (hs : isSlice v) (h1 : ∀ i e xs, (R.loc r).base = .row g i e xs → v = R.hdr r) (h2 : ∀ i e xs, R.loc r = .frow g i e xs → v = R.hdr r) : VR K w R (.sl r g) v
 | sv {r g off len a c} (hN : R.N r) (hc : len ≤ c)
   (h1 : ∀ i e xs, (R.loc r).base = .row g i e xs → off + len ≤ xs.length ∧ (0 < len → ∃ b n cap, R.hdr r = .slice (some ⟨b, 0, none⟩) n cap ∧ a = some ⟨b, off * K.sz e, none⟩) ∧ (off = 0 → ∃ n, R.hdr r = .slice a n c)) : VR K w R (.sv r g off len) (.slice a len c)
 | ptr {b off g} (hN : R.N b) (h1 : ∀ t cs, R.loc b = .box t cs → R.hdr b = .pointer (some ⟨g, 0, none⟩)) : VR K w R (.ptr b off) (.pointer (some ⟨g, off, none⟩))
 | er {r g i off ad} (hN : R.N r) (h1 : ∀ j e xs, (R.loc r).base = .row g j e xs → i < xs.length ∧ ∃ b n cap, R.hdr r = .slice (some ⟨b, 0, none⟩) n cap ∧ ad = ⟨b, i * K.sz e + off, none⟩) : VR K w R (.er r g i off) (.pointer (some ad))
 | fn {f caps vs} (h : VRL K w R caps vs) : VR K w R (.fn f caps) (.func (.func f) #[] vs.toArray)
 | agg {cs vs} (h : VRL K w R cs vs) : VR K w R (.agg cs) (.agg vs.toArray)
 | tup {xs vs} (h : VRM K w R xs vs) : VR K w R (.tup xs) (.tuple vs.toArray)
 | lit {e k cs g c} (hA : R.A g) (hg : w.heap[g]? = some (.cells c e (0, 0))) (hk : cs.length = k * K.sz e) (hv : VRL K w R cs c.toList) : VR K w R (.lit e k cs) (.slice (some ⟨g, 0, none⟩) k k)
 | pnil : VR K w R .pnil (.pointer none)
 | unk (b) : VR K w R .unk (.bool b)
 | undef (v) : VR K w R .undef v
inductive VRL (K : Cod Γ) (w : World) (R : Rh Γ) : List (AV Γ) → List Value → Prop
 | nil : VRL K w R [] []
 | cons {x v xs vs} (h : VR K w R x v) (h1 : v.oneCell' = true) (hs : VRL K w R xs vs) : VRL K w R (x :: xs) (v :: vs)
inductive VRM (K : Cod Γ) (w : World) (R : Rh Γ) : List (AV Γ) → List Value → Prop
 | nil : VRM K w R [] []
 | cons {x v xs vs} (h : VR K w R x v) (hs : VRM K w R xs vs) : VRM K w R (x :: xs) (v :: vs)
end
structure Qh (R R' : Rh Γ) : Prop where
 A : ∀ b, R.A b → R'.A b
 N : ∀ r, R.N r → R'.N r
 row : ∀ r, R.N r → ∀ g i e xs, (R'.loc r).base = .row g i e xs → R'.hdr r = R.hdr r ∧ ∃ i' xs', (R.loc r).base = .row g i' e xs' ∧ xs'.length = xs.length
 frow : ∀ r, R.N r → ∀ g i e xs, R'.loc r = .frow g i e xs → R'.hdr r = R.hdr r ∧ ((∃ i' e' xs', (R.loc r).base = .row g i' e' xs') ∨ ∃ i' e' xs', R.loc r = .frow g i' e' xs')
 box : ∀ r, R.N r → ∀ t cs, R'.loc r = .box t cs → R'.hdr r = R.hdr r ∧ ∃ t' cs', R.loc r = .box t' cs'
theorem Qh.refl (R : Rh Γ) : Qh R R := ⟨fun _ h => h, fun _ h => h, fun _ _ _ i _ xs h => ⟨rfl, i, xs, h, rfl⟩, fun _ _ _ i e xs h => ⟨rfl, .inr ⟨i, e, xs, h⟩⟩, fun _ _ t cs h => ⟨rfl, t, cs, h⟩⟩
mutual
theorem VR.move {w w' : World} {R R' : Rh Γ} (hc : Qh R R') (hs : Same R.A w w') {x : AV Γ} {v : Value} : VR K w R x v → VR K w' R' x v
 | .int k n => .int k n
 | .bool b => .bool b
 | .str s => .str s
 | .nil => .nil
 | .pnil => .pnil
 | .unk b => .unk b
 | .vs h => .vs (h.frame hc.A hs)
 | .vp h => .vp (h.frame hc.A hs)
 | .sl hN hsl h1 h2 => .sl (hc.N _ hN) hsl
   (fun i e xs h => let ⟨e1, i', xs', h', _⟩ := hc.row _ hN _ i e xs h; (h1 i' e xs' h').trans e1.symm)
   (fun i e xs h => let ⟨e1, h'⟩ := hc.frow _ hN _ i e xs h; h'.elim (fun ⟨i', e', xs', h'⟩ => (h1 i' e' xs' h').trans e1.symm) (fun ⟨i', e', xs', h'⟩ => (h2 i' e' xs' h').trans e1.symm))
 | .sv hN hcap h1 => .sv (hc.N _ hN) hcap (fun i e xs h => by
   obtain ⟨e1, i', xs', h', hl⟩ := hc.row _ hN _ i e xs h
   have := h1 i' e xs' h'
   rw [e1, ← hl]; exact this)
 | .ptr hN h1 => .ptr (hc.N _ hN) (fun t cs h => let ⟨e1, t', cs', h'⟩ := hc.box _ hN t cs h; e1.trans (h1 t' cs' h'))
 | .er hN h1 => .er (hc.N _ hN) (fun j e xs h => by
   obtain ⟨e1, i', xs', h', hl⟩ := hc.row _ hN _ j e xs h
   have := h1 i' e xs' h'
   rw [e1, ← hl]; exact this)
 | .fn h => .fn (h.move hc hs)
 | .lit hA hg hk hv => .lit (hc.A _ hA) ((hs _ hA).trans hg) hk (hv.move hc hs)
 | .agg h => .agg (h.move hc hs)
 | .tup h => .tup (h.move hc hs)
 | .undef v => .undef v
theorem VRL.move {w w' : World} {R R' : Rh Γ} (hc : Qh R R') (hs : Same R.A w w') {xs : List (AV Γ)} {vs : List Value} : VRL K w R xs vs → VRL K w' R' xs vs
 | .nil => .nil
 | .cons h h1 k => .cons (h.move hc hs) h1 (k.move hc hs)
theorem VRM.move {w w' : World} {R R' : Rh Γ} (hc : Qh R R') (hs : Same R.A w w') {xs : List (AV Γ)} {vs : List Value} : VRM K w R xs vs → VRM K w' R' xs vs
 | .nil => .nil
 | .cons h k => .cons (h.move hc hs) (k.move hc hs)
end
theorem VRL.length {w : World} {R : Rh Γ} : ∀ {xs : List (AV Γ)} {vs : List Value}, VRL K w R xs vs → xs.length = vs.length
 | _, _, .nil => rfl
 | _, _, .cons _ _ k => by simp [k.length]
theorem VRL.one {w : World} {R : Rh Γ} : ∀ {xs : List (AV Γ)} {vs : List Value}, VRL K w R xs vs → ∀ v ∈ vs, v.oneCell' = true
 | _, _, .nil => by simp
 | _, _, .cons _ h1 k => by
  intro v hv
  rcases Z13.1 hv with rfl | hv
  ·exact h1
  ·exact k.one v hv
theorem VRL.append {w : World} {R : Rh Γ} : ∀ {xs ys : List (AV Γ)} {vs us : List Value}, VRL K w R xs vs → VRL K w R ys us → VRL K w R (xs ++ ys) (vs ++ us)
 | _, _, _, _, .nil, k => k
 | _, _, _, _, .cons h h1 h', k => .cons h h1 (h'.append k)
theorem VRL.take {w : World} {R : Rh Γ} : ∀ {xs : List (AV Γ)} {vs : List Value} (n : Nat), VRL K w R xs vs → VRL K w R (xs.take n) (vs.take n)
 | _, _, _, .nil => by simpa using VRL.nil
 | _, _, 0, .cons _ _ _ => by simpa using VRL.nil
 | _, _, n + 1, .cons h h1 k => by simpa using VRL.cons h h1 (k.take n)
theorem VRL.drop {w : World} {R : Rh Γ} : ∀ {xs : List (AV Γ)} {vs : List Value} (n : Nat), VRL K w R xs vs → VRL K w R (xs.drop n) (vs.drop n)
 | _, _, _, .nil => by simpa using VRL.nil
 | _, _, 0, .cons h h1 k => by simpa using VRL.cons h h1 k
 | _, _, n + 1, .cons _ _ k => by simpa using k.drop n
theorem VRL.get {w : World} {R : Rh Γ} : ∀ {xs : List (AV Γ)} {vs : List Value}, VRL K w R xs vs → ∀ {i : Nat} {x : AV Γ}, xs[i]? = some x → ∃ v, vs[i]? = some v ∧ VR K w R x v ∧ v.oneCell' = true
 | _, _, .nil, i, x, h => by simp at h
 | _, _, .cons (v := v) h h1 _, 0, x, e => by simp at e; subst e; exact ⟨v, rfl, h, h1⟩
 | _, _, .cons _ _ k, i + 1, x, e => by simpa using k.get (i := i) (by simpa using e)
theorem VRM.get {w : World} {R : Rh Γ} : ∀ {xs : List (AV Γ)} {vs : List Value}, VRM K w R xs vs → ∀ {i : Nat} {x : AV Γ}, xs[i]? = some x → ∃ v, vs[i]? = some v ∧ VR K w R x v
 | _, _, .nil, i, x, h => by simp at h
 | _, _, .cons (v := v) h _, 0, x, e => by simp at e; subst e; exact ⟨v, rfl, h⟩
 | _, _, .cons _ k, i + 1, x, e => by simpa using k.get (i := i) (by simpa using e)
theorem VRL.splice {w : World} {R : Rh Γ} {xs ys : List (AV Γ)} {vs us : List Value} (off : Nat) (h : VRL K w R xs vs) (k : VRL K w R ys us) : VRL K w R (splice off ys xs) (splice off us vs) := by
 unfold Go.Ev.splice
 rw [k.length]
 exact ((h.take off).append k).append (h.drop _)
theorem VR.shT {w : World} {R : Rh Γ} {t : T Γ} {v : Value} (h : Ro K w R.A t v) : VR K w R (shT t) v ∧ v.oneCell' = true := by
 refine ⟨?_, h.one⟩
 cases t with
 | int k n => cases h; exact .int _ _
 | bool b => cases h; exact .bool _
 | str s => cases h; exact .str _
 | sl own i e xs => cases h with | sl hl hc hr hv => exact .vs (.sl hl hc hr hv)
 | ptr own t cs => cases h with | ptr hr hv => exact .vp (.ptr hr hv)
 | fn f caps =>
  cases h with
  | fn hr =>
   refine .fn ?_
   exact go hr
where
 go {w : World} {R : Rh Γ} : ∀ {ts : List (T Γ)} {vs : List Value}, RoL K w R.A ts vs → VRL K w R (Go.Ev.shT.shL ts) vs
 | _, _, .nil => .nil
 | _, _, .cons h k => .cons (VR.shT h).1 (VR.shT h).2 (go k)
def LV.live : LV Γ → Prop
 | .row .. => True
 | .hrow .. => True
 | .box .. => True
 | _ => False
def LR (K : Cod Γ) (w : World) (R : Rh Γ) (h : Value) (M : List Nat) : LV Γ → Prop
 | .dead => True
 | .row _ i e xs => Own K w R.A (.sl true i e xs) h M
 | .frow _ i e xs => Ro K w R.A (.sl false i e xs) h
 | .box t cs => ∃ g c, h = .pointer (some ⟨g, 0, none⟩) ∧ M = [g] ∧ w.heap[g]? = some (.cells c t (0, 0)) ∧ VRL K w R cs c.toList
 | .hrow _ e xs x i off n => ∃ vs L1 L2, w.ownsRow 0 e (K.sz e) h xs.length vs ∧ xs[i]? = some x ∧ off < K.sz e ∧ OwnL K w R.A ((cells K true e xs).take (i * K.sz e + off)) (vs.take (i * K.sz e + off)) L1 ∧
   OwnL K w R.A ((cells K true e xs).drop (i * K.sz e + off + 1)) (vs.drop (i * K.sz e + off + 1)) L2 ∧ M = blk h ++ (L1 ++ L2) ∧ R.N n ∧ ∀ g i' e' ys, (R.loc n).base = .row g i' e' ys → vs[i * K.sz e + off]? = some (R.hdr n)
structure Locs (K : Cod Γ) (w : World) (R : Rh Γ) (M : Nat → List Nat) (own : Nat → Option Nat) (mine : Nat → Prop) : Prop where
 lr : ∀ i, LR K w R (R.hdr i) (M i) (R.loc i)
 own : ∀ i, (R.loc i).live → ∀ b ∈ M i, own b = some i
 nodup : ∀ i, (R.loc i).live → (M i).Nodup
 lt : ∀ i, (R.loc i).live → ∀ b ∈ M i, b < w.heap.size ∧ mine b ∧ ¬ R.A b
 alt : ∀ b, R.A b → b < w.heap.size
end Go.Ev
namespace Go.Ev
variable {Γ : TypeId → Type} {K : Cod Γ}
theorem LR.move {w w' : World} {R R' : Rh Γ} (hc : Qh R R') (hs : Same R.A w w') {h : Value} {M : List Nat} {lv : LV Γ}
  (hk : LR K w R h M lv) (hM : lv.live → ∀ b ∈ M, w'.heap[b]? = w.heap[b]?) : LR K w' R' h M lv := by
 cases lv with
 | dead => trivial
 | row g i e xs => exact Own.frame hc.A hs hk (hM trivial)
 | frow g i e xs => exact Ro.frame hc.A hs hk
 | box t cs =>
  obtain ⟨g, c, h1, h2, h3, h4⟩ := hk
  exact ⟨g, c, h1, h2, (hM trivial g (by simp [h2])).trans h3, h4.move hc hs⟩
 | hrow g e xs x i off n =>
  obtain ⟨vs, L1, L2, h1, h2, h3, h4, h5, h6, h7, h8⟩ := hk
  subst h6
  have hM := hM trivial
  exact ⟨vs, L1, L2, ownsRow_frame h1 fun b hb => hM b (by simp [hb]), h2, h3, OwnL.frame hc.A hs h4 fun b hb => hM b (by simp [hb]), OwnL.frame hc.A hs h5 fun b hb => hM b (by simp [hb]), rfl, hc.N _ h7, fun g' i' e' ys hy => by
   obtain ⟨e1, i2, ys2, e2, _⟩ := hc.row n h7 g' i' e' ys hy
   rw [e1]; exact h8 _ _ _ _ e2⟩
def upd {α : Type} (f : Nat → α) (i : Nat) (x : α) : Nat → α := fun j => if j = i then x else f j
@[simp] theorem upd_same {α : Type} (f : Nat → α) (i : Nat) (x : α) : upd f i x i = x := by simp [upd]
theorem upd_ne {α : Type} (f : Nat → α) {i j : Nat} (x : α) (h : j ≠ i) : upd f i x j = f j := by simp [upd, h]
theorem Locs.put {w w' : World} {R R' : Rh Γ} {M : Nat → List Nat} {own own' : Nat → Option Nat} {mine : Nat → Prop} (hL : Locs K w R M own mine)
  (i : Nat) (lv : LV Γ) (h : Value) (m : List Nat) (hc : Qh R R') (hs : Same R.A w w')
  (eloc : R'.loc = upd R.loc i lv) (ehdr : R'.hdr = upd R.hdr i h) (eA : R'.A = R.A)
  (hkeep : ∀ j, j ≠ i → (R.loc j).live → ∀ b ∈ M j, w'.heap[b]? = w.heap[b]? ∧ own' b = some j)
  (hsize : w.heap.size ≤ w'.heap.size)
  (hlr : LR K w' R' h m lv) (hown : lv.live → ∀ b ∈ m, own' b = some i) (hnd : lv.live → m.Nodup) (hlt : lv.live → ∀ b ∈ m, b < w'.heap.size ∧ mine b ∧ ¬ R.A b) :
  Locs K w' R' (upd M i m) own' mine := by
 refine ⟨fun j => ?_, fun j => ?_, fun j => ?_, fun j => ?_, fun b hb => ?_⟩
 ·by_cases e : j = i
  ·subst e; rw [eloc, ehdr, upd_same, upd_same, upd_same]; exact hlr
  ·rw [eloc, ehdr, upd_ne _ _ e, upd_ne _ _ e, upd_ne _ _ e]
   exact (hL.lr j).move hc hs (fun hl b hb => (hkeep j e hl b hb).1)
 ·by_cases e : j = i
  ·subst e; rw [eloc, upd_same, upd_same]; exact hown
  ·rw [eloc, upd_ne _ _ e, upd_ne _ _ e]
   exact fun hl b hb => (hkeep j e hl b hb).2
 ·by_cases e : j = i
  ·subst e; rw [eloc, upd_same, upd_same]; exact hnd
  ·rw [eloc, upd_ne _ _ e, upd_ne _ _ e]
   exact hL.nodup j
 ·by_cases e : j = i
  ·subst e; rw [eloc, upd_same, upd_same, eA]; exact hlt
  ·rw [eloc, upd_ne _ _ e, upd_ne _ _ e, eA]
   exact fun hl b hb => ⟨Z54 (hL.lt j hl b hb).1 hsize, (hL.lt j hl b hb).2⟩
 ·rw [eA] at hb; exact Z54 (hL.alt b hb) hsize
theorem Q3b {α : Type} (f : Nat → α) (i : Nat) : upd f i (f i) = f := by funext j; unfold upd; split <;> simp_all
end Go.Ev
/- Each operation's step. -/
namespace Go.Ev
variable {Γ : TypeId → Type} {K : Cod Γ} {β : Type}
inductive ZcOk : List Zc → List Value → Prop
 | nil : ZcOk [] []
 | int {k zs vs} (h : ZcOk zs vs) : ZcOk (.int k :: zs) (.int k 0 :: vs)
 | bool {zs vs} (h : ZcOk zs vs) : ZcOk (.bool :: zs) (.bool false :: vs)
 | str {zs vs} (h : ZcOk zs vs) : ZcOk (.str :: zs) (.string ⟨#[]⟩ :: vs)
 | sl {e zs vs} (h : ZcOk zs vs) : ZcOk (.nil e :: zs) (.slice none 0 0 :: vs)
 | any {v zs vs} (h1 : v.oneCell' = true) (h : ZcOk zs vs) : ZcOk (.any :: zs) (v :: vs)
structure FieldOk (P : Program) (fields : Array Field) (f off sz : Nat) (agg : Bool) : Prop where
 ex : ∃ fd, fields[f]? = some fd ∧ fd.offset = off ∧ (∃ i, P.info? fd.type = some i ∧ i.size = sz) ∧ sz ≠ 0 ∧ ∃ d, P.underlying fd.type = some d ∧ (agg = true ↔ ∃ fs, d = .struct fs) ∧ ∀ n e, d ≠ .array n e
def KindOk (P : Program) (K : Cod Γ) (X : CodX K) (t : TypeId) : TK → Prop
 | .one => ∃ d, P.underlying t = some d ∧ (∀ fs, d ≠ .struct fs) ∧ (∀ n e, d ≠ .array n e) ∧ (∀ e, d ≠ .slice e)
 | .bool => P.underlying t = some .bool
 | .int k => P.underlying t = some (.int k)
 | .str => P.underlying t = some .string
 | .sl e => P.underlying t = some (.slice e) ∧ ∃ ie, P.info? e = some ie ∧ ie.size = K.sz e ∧
   ∃ z, ie.zero = some z ∧ z.cells.size = K.sz e ∧ ∀ w A b, OwnL K w A (K.enc e b (X.zero e)) z.cells.toList []
 | .agg fs => ∃ fields, P.underlying t = some (.struct fields) ∧ fields.toList.mapM (fun f => (P.info? f.type).map fun i => (f.offset, i.size)) = some (fs.map fun p => (p.1, p.2.1)) ∧ ∀ f off sz b, fs[f]? = some (off, sz, b) → FieldOk P fields f off sz b
structure TyOk1 (P : Program) (K : Cod Γ) (X : CodX K) (t : TypeId) (i : TyI) : Prop where
 info : ∃ inf, P.info? t = some inf ∧ inf.size = i.size ∧ inf.bytes = i.bytes ∧ ∃ z, inf.zero = some z ∧ ZcOk i.zero z.cells.toList
 kind : KindOk P K X t i.kind
def TyOk (P : Program) (K : Cod Γ) (X : CodX K) (ty : TypeId → Option TyI) : Prop := ∀ t i, ty t = some i → TyOk1 P K X t i
structure Fm where
 L : List Nat
 A : Nat → Prop
 par : Nat → Option Value
def mine (w0 : World) (L0 : Fm) (b : Nat) : Prop := w0.heap.size ≤ b ∨ b ∈ L0.L
structure Fr (w0 : World) (L0 : Fm) (w : World) : Prop where
 os : w.os = w0.os
 tape : w.tape = w0.tape
 output : w.output = w0.output
 drawn : w0.drawn ≤ w.drawn
 size : w0.heap.size ≤ w.heap.size
 block : ∀ b, b < w0.heap.size → b ∉ L0.L → w.heap[b]? = w0.heap[b]?
theorem Fr.refl (w : World) (L : Fm) : Fr w L w := ⟨rfl, rfl, rfl, Z7 _, Z7 _, fun _ _ _ => rfl⟩
theorem Fr.step {w0 w w' : World} {L0 : Fm} (h : Fr w0 L0 w) (o1 : w'.os = w.os) (o2 : w'.tape = w.tape) (o3 : w'.output = w.output) (o4 : w.drawn ≤ w'.drawn) (hs : w.heap.size ≤ w'.heap.size)
  (hb : ∀ b, b < w.heap.size → ¬ mine w0 L0 b → w'.heap[b]? = w.heap[b]?) : Fr w0 L0 w' :=
 ⟨o1.trans h.os, o2.trans h.tape, o3.trans h.output, Z35 h.drawn o4, Z35 h.size hs, fun b h1 h2 => (hb b (Z54 h1 h.size) (fun hm => hm.elim (fun x => by omega) h2)).trans (h.block b h1 h2)⟩
structure SRx (K : Cod Γ) (w0 : World) (L0 : Fm) (R : Rh Γ) (M : Nat → List Nat) (own : Nat → Option Nat) (st : St Γ) (a : Go.Act) (w : World) : Prop where
 hl : R.loc = st.loc
 size : st.slots.length = a.tmps.size
 slots : ∀ t, VR K w R (st.get t) (a.tmps.getD t undef)
 locs : Locs K w R M own (mine w0 L0)
 defers : a.defers = []
 fr : Fr w0 L0 w
 up : ∀ b, L0.A b → R.A b
 dn : ∀ b, R.A b → L0.A b ∨ mine w0 L0 b
 par : ∀ i v, L0.par i = some v → a.tmps.getD i undef = v
def SR (K : Cod Γ) (w0 : World) (L0 : Fm) (N : Nat → Prop) (st : St Γ) (a : Go.Act) (w : World) : Prop :=
 ∃ R M own, R.N = N ∧ SRx K w0 L0 R M own st a w
theorem SR.mono {w0 : World} {L0 : Fm} {N N' : Nat → Prop} {st : St Γ} {a : Go.Act} {w : World} (h : SR K w0 L0 N st a w) (hN : ∀ r, N r → N' r) : SR K w0 L0 N' st a w := by
 obtain ⟨R, M, own, rfl, h⟩ := h
 have hc : Qh R { R with N := N' } := ⟨fun _ h => h, hN, fun _ _ _ i _ xs h => ⟨rfl, i, xs, h, rfl⟩, fun _ _ _ i e xs h => ⟨rfl, .inr ⟨i, e, xs, h⟩⟩, fun _ _ t cs h => ⟨rfl, t, cs, h⟩⟩
 exact ⟨{ R with N := N' }, M, own, rfl, h.hl, h.size, fun t => (h.slots t).move hc (fun _ _ => rfl),
  ⟨fun i => (h.locs.lr i).move hc (fun _ _ => rfl) (fun _ _ _ => rfl), h.locs.own, h.locs.nodup, h.locs.lt, h.locs.alt⟩, h.defers, h.fr, h.up, h.dn, h.par⟩
theorem constAV_ok (w : World) (R : Rh Γ) (v : Value) : VR K w R (constAV v) v := by
 unfold constAV
 split <;> first | exact .int _ _ | exact .bool _ | exact .str _ | exact .nil | exact .pnil | exact .undef _
theorem SRx.ev {w0 : World} {L0 : Fm} {R : Rh Γ} {M : Nat → List Nat} {own : Nat → Option Nat} {st : St Γ} {a : Go.Act} {w : World} (h : SRx K w0 L0 R M own st a w) (x : Operand) :
  VR K w R (st.ev x) (a.eval x) := by
 cases x with
 | tmp t => exact h.slots t
 | const v => exact constAV_ok w R v
 | global g => exact .undef _
 | func f => exact .fn (caps := []) (vs := []) .nil
theorem slot_put {w : World} {R : Rh Γ} {slots : List (AV Γ)} {tmps : Array Value} (hs : slots.length = tmps.size) (h : ∀ t, VR K w R (slots.getD t .undef) (tmps.getD t undef)) {x : AV Γ} {v : Value} (hx : VR K w R x v) (d : Nat) :
  ∀ t, VR K w R ((slots.set d x).getD t .undef) ((tmps.setIfInBounds d v).getD t undef) := by
 intro t
 have ht := h t
 simp only [Z9, Z51, List.getElem?_set, Array.getElem?_setIfInBounds] at ht ⊢
 by_cases e : d = t
 ·subst e
  by_cases hd : d < slots.length
  ·have hd' : d < tmps.size := by omega
   simp [hd, hd', hx]
  ·have hd' : ¬ d < tmps.size := by omega
   simp [hd, hd']
   exact .undef _
 ·simpa [e] using ht
theorem SRx.upd {w0 : World} {L0 : Fm} {R R' : Rh Γ} {M M' : Nat → List Nat} {own own' : Nat → Option Nat} {st : St Γ} {a : Go.Act} {w w' : World} (h : SRx K w0 L0 R M own st a w)
  (hc : Qh R R') (hs : Same R.A w w') (act : Act Γ) (hl : R'.loc = Qp st.loc act.upd) (hL : Locs K w' R' M' own' (mine w0 L0)) (hf : Fr w0 L0 w')
  (hA : ∀ b, R'.A b → R.A b ∨ mine w0 L0 b) (dst : Option Nat) (hd : ∀ d, dst = some d → L0.par d = none) {v : Value} (hv : VR K w' R' act.val v) : SRx K w0 L0 R' M' own' (st.put dst act) (a.put dst v) w' := by
 have h1 : ∀ t, VR K w' R' (st.get t) (a.tmps.getD t undef) := fun t => (h.slots t).move hc hs
 have up : ∀ b, L0.A b → R'.A b := fun b hb => hc.A b (h.up b hb)
 have dn : ∀ b, R'.A b → L0.A b ∨ mine w0 L0 b := fun b hb => (hA b hb).elim (h.dn b) .inr
 cases dst with
 | none => exact ⟨hl, h.size, h1, hL, h.defers, hf, up, dn, h.par⟩
 | some d => exact ⟨hl, by simp [St.put, Q2T, Act.put, Go.Act.put, h.size], fun t => slot_put h.size h1 hv d t, hL, h.defers, hf, up, dn, fun i u hi => by
   have hne : d ≠ i := fun e => by rw [← e, hd d rfl] at hi; cases hi
   rw [← h.par i u hi]
   simp [Go.Act.put, Z51, Array.getElem?_setIfInBounds_ne hne]⟩
def Q1V (P : Program) (K : Cod Γ) (w0 : World) (L0 : Fm) (st : St Γ) (n : Nat) (o : Oper) (act : Act Γ) : Prop :=
 ∀ (N : Nat → Prop) (a : Go.Act) (w : World), SR K w0 L0 N st a w → (∀ r, n ≤ r → r < n + 64 → ¬ N r) → (∀ d, o.dst = some d → L0.par d = none) →
  ∀ (Kn : Go.Act → World → Prop) (Q : Exit → Go.Act → World → Prop), (∀ a' w', SR K w0 L0 (fun r => N r ∨ (n ≤ r ∧ r < n + 64)) (st.put o.dst act) a' w' → Kn a' w') → o.wp P a w Kn Q
theorem Q2l {P : Program} {w0 : World} {L0 : Fm} {st : St Γ} {n : Nat} {o : Oper} {x : AV Γ}
  (h : ∀ (R : Rh Γ) (M : Nat → List Nat) (own : Nat → Option Nat) (a : Go.Act) (w : World), SRx K w0 L0 R M own st a w → ∃ v, (execOp a.eval o).run P w = .ok (.value v) w ∧ VR K w R x v) :
  Q1V P K w0 L0 st n o ⟨x, []⟩ := by
 intro N a w hS hf hd Kn Q hK
 obtain ⟨R, M, own, hN, hx⟩ := hS
 obtain ⟨v, hr, hv⟩ := h R M own a w hx
 unfold Oper.wp
 rw [hr, Oper.upon_value]
 refine hK _ _ (SR.mono (N := N) ⟨R, M, own, hN, ?_⟩ fun r h => .inl h)
 exact hx.upd (Qh.refl R) (fun _ _ => rfl) ⟨x, []⟩ hx.hl hx.locs hx.fr (fun _ h => .inl h) o.dst hd hv
theorem Q1P {P : Program} {w w' : World} {s : Sem Value} {v : Value} (h : s.run P w = .ok v w') : (s >>= fun v => pure (Next.value v) : Sem Next).run P w = .ok (.value v) w' := by
 rw [Z17, h]; rfl
theorem Q1L (l : Nat → LV Γ) (j : Nat) (v : LV Γ) (us : List (Nat × LV Γ)) : Qp l ((j, v) :: us) = Go.Ev.upd (Qp l us) j v := by
 funext i
 simp only [Qp, Go.Ev.upd]
 by_cases h : i = j
 ·subst h; simp
 ·rw [if_neg h]
  have : i.beq j = false := by
   cases hb : i.beq j with
   | false => rfl
   | true => exact absurd (Nat.eq_of_beq_eq_true hb) h
  rw [this]; rfl
theorem updLoc_nil (l : Nat → LV Γ) : Qp l [] = l := rfl
def Rh.new (R : Rh Γ) (n : Nat) (lv : LV Γ) (h : Value) : Rh Γ := { R with N := fun r => R.N r ∨ r = n, loc := Go.Ev.upd R.loc n lv, hdr := Go.Ev.upd R.hdr n h }
theorem Qh.new {R : Rh Γ} {n : Nat} (hn : ¬ R.N n) (lv : LV Γ) (h : Value) : Qh R (R.new n lv h) := by
 have ne : ∀ r, R.N r → r ≠ n := fun r hr e => hn (e ▸ hr)
 refine ⟨fun _ h => h, fun _ h => .inl h, fun r hr g i e xs h => ?_, fun r hr g i e xs h => ?_, fun r hr t cs h => ?_⟩ <;> simp only [Rh.new, Go.Ev.upd_ne _ _ (ne r hr)] at h ⊢
 ·exact ⟨trivial, i, xs, h, rfl⟩
 ·exact ⟨trivial, .inr ⟨i, e, xs, h⟩⟩
 ·exact ⟨trivial, t, cs, h⟩
theorem Locs.nilRow {w : World} {R : Rh Γ} {M : Nat → List Nat} {own : Nat → Option Nat} {mine : Nat → Prop} (hL : Locs K w R M own mine) {n : Nat} (hn : ¬ R.N n) (inner : Bool) (e : TypeId) :
  Locs K w (R.new n (.row 0 inner e []) (.slice none 0 0)) (Go.Ev.upd M n []) own mine :=
 hL.put n _ _ [] (Qh.new hn _ _) (fun _ _ => rfl) rfl rfl rfl (fun j _ hl b hb => ⟨rfl, hL.own j hl b hb⟩) (Z7 _)
  (by
   have h := Own.sl (K := K) (w := w) (A := R.A) (inner := inner) (e := e) (xs := []) (v := .slice none 0 0) (vs := []) (L := []) (World.ownsRow_nil w 0 e _) .nil
   exact h)
  (fun _ b hb => by cases hb) (fun _ => Z71) (fun _ b hb => by cases hb)
theorem Q3c {c : Ctx Γ K β} {n : Nat} {t : TypeId} {v : AV Γ} {kk : Act Γ → Option β} {b : β} (h : Q1W c n t v kk = some b) :
  ∃ act : Act Γ, (∀ kk' : Act Γ → Option β, Q1W c n t v kk' = kk' act) ∧ (∀ i ∈ act.upd.map (·.1), i = n) ∧ act.val ≠ .undef ∧
   ∀ (w : World) (R : Rh Γ) (M : Nat → List Nat) (own : Nat → Option Nat) (mine : Nat → Prop) (x : Value), Locs K w R M own mine → VR K w R v x → ¬ R.N n →
    ∃ R' M', R'.loc = Qp R.loc act.upd ∧ R'.A = R.A ∧ (∀ r, R'.N r → R.N r ∨ r = n) ∧ Qh R R' ∧ Locs K w R' M' own mine ∧ VR K w R' act.val x := by
 cases v with
 | nil =>
  simp only [Q1W] at h ⊢
  cases hE : c.elem t with
  | none => rw [hE] at h; cases h
  | some e =>
   refine ⟨⟨.sl n 0, [(n, .row 0 (c.inner e) e [])]⟩, fun kk' => rfl, by simp, by simp, fun w R M own mine x hL hx hn => ?_⟩
   cases hx
   refine ⟨R.new n (.row 0 (c.inner e) e []) (.slice none 0 0), _, by rw [Q1L]; rfl, rfl, fun r h => h, Qh.new hn _ _, hL.nilRow hn _ _, ?_⟩
   exact .sl (.inr rfl) ⟨_, _, _, rfl⟩ (fun i e xs _ => by simp [Rh.new]) (fun i e xs _ => by simp [Rh.new])
 | undef => simp [Q1W] at h
 | _ =>
  refine ⟨⟨_, []⟩, fun kk' => rfl, by simp, by simp, fun w R M own mine x hL hx hn => ⟨R, M, rfl, rfl, fun r h => .inl h, Qh.refl R, hL, hx⟩⟩
end Go.Ev
/- Draws are only counted up. -/
namespace Go.Ev
open Go
theorem viewStore_drawn {p : Program} {w w' : World} {at_ : Addr} {u : TypeId} {k : Addr} {v : Value} {b : Bool} {l : List Addr} (h : w.viewStore p at_ u k v b = .ok (w', l)) : w'.drawn = w.drawn := by
 unfold World.viewStore at h
 simp only [bind, Except.bind, pure, Except.pure, throw, throwThe, MonadExceptOf.throw] at h
 repeat' split at h
 all_goals first
  | (cases h; done)
  | (cases h; rfl)
theorem ask_drawn {α : Type} : ∀ (a : Ask α) (w : World), w.drawn ≤ (w.ask a).2.drawn
 | .done _, _ => Z7 _
 | .ask what range k, w => by
  simp only [World.ask]
  split
  ·exact ask_drawn _ w
  ·exact Z35 (Nat.le_succ _) (ask_drawn _ { w with drawn := w.drawn + 1 })
theorem sys_drawn (c : Sys) (w : World) : w.drawn ≤ (w.sys c).2.drawn := by
 have h := ask_drawn (Kernel.perform c w.os) w
 unfold World.sys
 split
 ·exact Z7 _
 ·rename_i r os w2 _ he
  rw [he] at h; exact h
theorem run_drawn {α : Type} {p : Program} (s : Sem α) : ∀ (w : World) (v : α) (w' : World), s.run p w = .ok v w' → w.drawn ≤ w'.drawn := by
 induction s with
 | pure a => intro w v w' h; cases h; exact Z7 _
 | load m a k ih =>
  intro w v w' h
  simp only [Sem.run] at h
  split at h
  ·exact ih _ w v w' h
  ·split at h
   ·exact ih _ w v w' h
   ·cases h
 | store m a x k ih =>
  intro w v w' h
  have key : (match w.cell? a with
   | some _ => if w.frozen? a then .halt (.unsupported (.unsafePointer "a write to bytes that a string shares")) w else k.run p (w.setCell a x)
   | none => match w.farStore p a x (m == .atomic) with
    | .ok (w, _) => k.run p w
    | .error h => .halt h w) = Result.ok v w' → w.drawn ≤ w'.drawn := by
   intro h
   split at h
   ·split at h
    ·cases h
    ·exact ih (w.setCell a x) v w' h
   ·split at h
    ·rename_i w2 l hf
     refine Z35 ?_ (ih w2 v w' h)
     unfold World.farStore at hf
     split at hf
     ·split at hf
      ·rename_i hv
       cases hf
       exact Nat.le_of_eq (viewStore_drawn hv).symm
      ·cases hf
     ·cases hf
    ·cases h
  cases x <;> first | (exact key h) | (cases h)
 | new o k ih => intro w v w' h; exact ih w.heap.size { w with heap := w.heap.push o } v w' h
 | shape r k ih => intro w v w' h; exact ih _ w v w' h
 | freeze a n k ih =>
  intro w v w' h
  refine Z35 ?_ (ih (w.freeze a n) v w' h)
  unfold World.freeze; split <;> exact Z7 _
 | frozen a k ih => intro w v w' h; exact ih _ w v w' h
 | getObj r k ih =>
  intro w v w' h
  simp only [Sem.run] at h
  split at h
  ·cases h
  ·exact ih _ w v w' h
  ·cases h
 | setObj r o k ih =>
  intro w v w' h
  simp only [Sem.run] at h
  split at h
  ·cases h
  ·exact ih { w with heap := w.heap.setIfInBounds r o } v w' h
  ·cases h
 | choose q k ih =>
  intro w v w' h
  simp only [Sem.run] at h
  split at h
  ·exact ih _ w v w' h
  ·exact Z35 (Nat.le_succ _) (ih _ { w with drawn := w.drawn + 1 } v w' h)
 | sys c k ih => intro w v w' h; exact Z35 (sys_drawn c w) (ih _ _ v w' h)
 | program k ih => intro w v w' h; exact ih _ w v w' h
 | mark m k ih => intro w v w' h; exact ih w v w' h
 | halt h => intro w v w' h; cases h
end Go.Ev
/- Each operation's step: values. -/
namespace Go.Ev
variable {Γ : TypeId → Type} {K : Cod Γ} {β : Type}
theorem Q4m {P : Program} {w0 : World} {L0 : Fm} {st : St Γ} {n : Nat} {o : Oper} {x : Operand} {act : Act Γ}
  (h : ∀ (w : World) (R : Rh Γ) (M : Nat → List Nat) (own : Nat → Option Nat) (mine : Nat → Prop) (v : Value), Locs K w R M own mine → VR K w R (st.ev x) v → ¬ R.N n →
    ∃ R' M', R'.loc = Qp R.loc act.upd ∧ R'.A = R.A ∧ (∀ r, R'.N r → R.N r ∨ r = n) ∧ Qh R R' ∧ Locs K w R' M' own mine ∧ VR K w R' act.val v)
  (hr : ∀ (N : Nat → Prop) (a : Go.Act) (w : World), SR K w0 L0 N st a w → (execOp a.eval o).run P w = .ok (.value (a.eval x)) w) : Q1V P K w0 L0 st n o act := by
 intro N a w hS hf hd Kn Q hK
 have hr := hr N a w hS
 obtain ⟨R, M, own, hN, hx⟩ := hS
 obtain ⟨R', M', e1, e2, e3, hc, hL, hv⟩ := h w R M own (mine w0 L0) _ hx.locs (hx.ev x) (by rw [hN]; exact hf n (Z7 _) (by omega))
 unfold Oper.wp
 rw [hr, Oper.upon_value]
 refine hK _ _ (SR.mono (N := R'.N) ⟨R', M', own, rfl, hx.upd hc (fun _ _ => rfl) act (by rw [e1, hx.hl]) hL hx.fr (fun b hb => by rw [e2] at hb; exact .inl hb) o.dst hd hv⟩ fun r h => ?_)
 rcases e3 r h with h | h
 ·exact .inl (by rw [hN] at h; exact h)
 ·exact .inr (by omega)
def Q2h (P : Program) (K : Cod Γ) (w0 : World) (L0 : Fm) (st : St Γ) (n : Nat) (o : Oper) (F : (Act Γ → Option β) → Option β) : Prop :=
 ∃ act : Act Γ, (∀ kk, F kk = kk act) ∧ Q1V P K w0 L0 st n o act
theorem move_sound {P : Program} {c : Ctx Γ K β} {w0 : World} {L0 : Fm} {st : St Γ} {n : Nat} {o : Oper} {x : Operand} (ho : o.op = .move x ∨ o.op = .assign x) {kk : Act Γ → Option β} {b : β}
  (h : Q1W c n o.type (st.ev x) kk = some b) : Q2h P K w0 L0 st n o (Q1W c n o.type (st.ev x)) := by
 obtain ⟨act, h1, _, _, h2⟩ := Q3c h
 refine ⟨act, h1, Q4m (x := x) h2 fun N a w _ => ?_⟩
 unfold execOp
 rcases ho with ho | ho <;> simp only [ho] <;> rfl
theorem pick_sound {P : Program} {c : Ctx Γ K β} {w0 : World} {L0 : Fm} {st : St Γ} {n : Nat} {o : Oper} {x y z : Operand} (ho : o.op = .pick x y z) {kk : Act Γ → Option β} {b : β} {t : Bool} (ht : st.ev x = .bool t)
  (h : (bif t then Q1W c n o.type (st.ev y) kk else Q1W c n o.type (st.ev z) kk) = some b) : Q2h P K w0 L0 st n o (fun kk => bif t then Q1W c n o.type (st.ev y) kk else Q1W c n o.type (st.ev z) kk) := by
 have run : ∀ (N : Nat → Prop) (a : Go.Act) (w : World), SR K w0 L0 N st a w → (execOp a.eval o).run P w = .ok (.value (if t then a.eval y else a.eval z)) w := by
  intro N a w hS
  obtain ⟨R, M, own, hN, hx⟩ := hS
  have hb := hx.ev x
  rw [ht] at hb
  have e : a.eval x = .bool t := by generalize a.eval x = v at hb; cases hb; rfl
  unfold execOp
  simp only [ho, e, asBool]
  cases t <;> rfl
 cases t with
 | true =>
  obtain ⟨act, h1, _, _, h2⟩ := Q3c h
  exact ⟨act, h1, Q4m (x := y) h2 run⟩
 | false =>
  obtain ⟨act, h1, _, _, h2⟩ := Q3c h
  exact ⟨act, h1, Q4m (x := z) h2 run⟩
theorem arith_sound {P : Program} {op : BinOp} {k : IntKind} {x y : Int} {kk : AV Γ → Option β} {b : β} (h : arith op k x y kk = some b) (h1 : op ≠ .shl) (h2 : op ≠ .shr) :
  ∃ v : AV Γ, (∀ kk' : AV Γ → Option β, arith op k x y kk' = kk' v) ∧ ∀ (w : World) (R : Rh Γ) (t : TypeId), ∃ r, (Go.binOp op t (.int k x) (.int k y)).run P w = .ok r w ∧ VR K w R v r := by
 cases op with
 | shl => exact absurd rfl h1
 | shr => exact absurd rfl h2
 | quo =>
  by_cases hy : y = 0
  ·subst hy; simp [arith] at h
  ·exact ⟨.int k (k.wrap (x.tdiv y)), fun kk' => by simp [arith, hy], fun w R t => ⟨.int k (k.wrap (x.tdiv y)), by simp [Go.binOp, Op.intDiv, hy], .int _ _⟩⟩
 | rem =>
  by_cases hy : y = 0
  ·subst hy; simp [arith] at h
  ·exact ⟨.int k (x.tmod y), fun kk' => by simp [arith, hy], fun w R t => ⟨.int k (x.tmod y), by simp [Go.binOp, Op.intDiv, hy], .int _ _⟩⟩
 | add => exact ⟨.int k (k.wrap (x + y)), fun kk' => rfl, fun w R t => ⟨.int k (k.wrap (x + y)), by simp [Go.binOp, Op.intArith], .int _ _⟩⟩
 | sub => exact ⟨.int k (k.wrap (x - y)), fun kk' => rfl, fun w R t => ⟨.int k (k.wrap (x - y)), by simp [Go.binOp, Op.intArith], .int _ _⟩⟩
 | mul => exact ⟨.int k (k.wrap (x * y)), fun kk' => rfl, fun w R t => ⟨.int k (k.wrap (x * y)), by simp [Go.binOp, Op.intArith], .int _ _⟩⟩
 | and => exact ⟨_, fun kk' => rfl, fun w R t => ⟨_, by simp only [Go.binOp, Op.intBits, ne_eq, not_true_eq_false, if_false]; rfl, .int _ _⟩⟩
 | or => exact ⟨_, fun kk' => rfl, fun w R t => ⟨_, by simp only [Go.binOp, Op.intBits, ne_eq, not_true_eq_false, if_false]; rfl, .int _ _⟩⟩
 | xor => exact ⟨_, fun kk' => rfl, fun w R t => ⟨_, by simp only [Go.binOp, Op.intBits, ne_eq, not_true_eq_false, if_false]; rfl, .int _ _⟩⟩
 | andNot => exact ⟨_, fun kk' => rfl, fun w R t => ⟨_, by simp only [Go.binOp, Op.intBits, ne_eq, not_true_eq_false, if_false]; rfl, .int _ _⟩⟩
 | eql => exact ⟨_, fun kk' => rfl, fun w R t => ⟨_, by simp only [Go.binOp, Op.intCmp, ne_eq, not_true_eq_false, if_false]; rfl, .bool _⟩⟩
 | neq => exact ⟨_, fun kk' => rfl, fun w R t => ⟨_, by simp only [Go.binOp, Op.intCmp, ne_eq, not_true_eq_false, if_false]; rfl, .bool _⟩⟩
 | lss => exact ⟨_, fun kk' => rfl, fun w R t => ⟨_, by simp only [Go.binOp, Op.intCmp, ne_eq, not_true_eq_false, if_false]; rfl, .bool _⟩⟩
 | leq => exact ⟨_, fun kk' => rfl, fun w R t => ⟨_, by simp only [Go.binOp, Op.intCmp, ne_eq, not_true_eq_false, if_false]; rfl, .bool _⟩⟩
 | gtr => exact ⟨_, fun kk' => rfl, fun w R t => ⟨_, by simp only [Go.binOp, Op.intCmp, ne_eq, not_true_eq_false, if_false]; rfl, .bool _⟩⟩
 | geq => exact ⟨_, fun kk' => rfl, fun w R t => ⟨_, by simp only [Go.binOp, Op.intCmp, ne_eq, not_true_eq_false, if_false]; rfl, .bool _⟩⟩
theorem shift_sound {P : Program} {op : BinOp} {k k' : IntKind} {x y : Int} {kk : AV Γ → Option β} {b : β} (h : Q31 op k x y kk = some b) (hop : op = .shl ∨ op = .shr) :
  ∃ v : AV Γ, (∀ kk' : AV Γ → Option β, Q31 op k x y kk' = kk' v) ∧ ∀ (w : World) (R : Rh Γ) (t : TypeId), ∃ r, (Go.binOp op t (.int k x) (.int k' y)).run P w = .ok r w ∧ VR K w R v r := by
 rcases hop with rfl | rfl <;> by_cases hy : y < 0
 ·simp [Q31, hy] at h
 ·exact ⟨.int k (k.wrap (x * 2 ^ (min y.toNat k.bits))), fun kk' => by simp [Q31, hy], fun w R t => ⟨.int k (k.wrap (x * 2 ^ (min y.toNat k.bits))), by simp [Go.binOp, Op.shift, hy], .int _ _⟩⟩
 ·simp [Q31, hy] at h
 ·exact ⟨.int k (x.fdiv (2 ^ (min y.toNat k.bits))), fun kk' => by simp [Q31, hy], fun w R t => ⟨.int k (x.fdiv (2 ^ (min y.toNat k.bits))), by simp [Go.binOp, Op.shift, hy], .int _ _⟩⟩
theorem Q3W {P : Program} (op : BinOp) (t : TypeId) (X Y : Operand) (x y : Value) (h1 : (∃ k n, x = .int k n) ∨ ∃ s, x = .string s) (w : World) : (eqGuard op t X Y x y).run P w = .ok () w := by
 unfold eqGuard
 rcases h1 with ⟨k, n, rfl⟩ | ⟨s, rfl⟩ <;> cases op <;> rfl
theorem binop_sound {P : Program} {op : BinOp} {x y : AV Γ} {kk : AV Γ → Option β} {b : β} (h : binop op x y kk = some b) :
    ∃ v : AV Γ, (∀ kk' : AV Γ → Option β, binop op x y kk' = kk' v) ∧ ∀ (w : World) (R : Rh Γ) (t : TypeId) (X Y : Operand) (xv yv : Value), VR K w R x xv → VR K w R y yv →
      ∃ r, (do eqGuard op t X Y xv yv; Go.binOp op t xv yv : Sem Value).run P w = .ok r w ∧ VR K w R v r := by
  unfold binop at h
  split at h
  · rename_i k a k' b'
    split at h
    · obtain ⟨v, e, r⟩ := shift_sound (P := P) (K := K) (k' := k') h (.inl rfl)
      refine ⟨v, e, fun w R t X Y xv yv hx hy => ?_⟩
      cases hx; cases hy
      obtain ⟨u, h1, h2⟩ := r w R t
      exact ⟨u, by rw [Z17, Q3W _ _ _ _ _ _ (.inl ⟨_, _, rfl⟩)]; exact h1, h2⟩
    · obtain ⟨v, e, r⟩ := shift_sound (P := P) (K := K) (k' := k') h (.inr rfl)
      refine ⟨v, e, fun w R t X Y xv yv hx hy => ?_⟩
      cases hx; cases hy
      obtain ⟨u, h1, h2⟩ := r w R t
      exact ⟨u, by rw [Z17, Q3W _ _ _ _ _ _ (.inl ⟨_, _, rfl⟩)]; exact h1, h2⟩
    · rename_i hn1 hn2
      split at h
      · rename_i hk
        subst hk
        obtain ⟨v, e, r⟩ := arith_sound (P := P) (K := K) h hn1 hn2
        refine ⟨v, fun kk' => ?_, fun w R t X Y xv yv hx hy => ?_⟩
        · rw [← e kk']; unfold binop; split <;> simp_all
        · cases hx; cases hy
          obtain ⟨u, h1, h2⟩ := r w R t
          exact ⟨u, by rw [Z17, Q3W _ _ _ _ _ _ (.inl ⟨_, _, rfl⟩)]; exact h1, h2⟩
      · cases h
  · split at h <;> first
      | cases h
      | (refine ⟨_, fun kk' => rfl, fun w R t X Y xv yv hx hy => ?_⟩
         cases hx; cases hy
         refine ⟨_, by rw [Z17, Q3W _ _ _ _ _ _ (.inr ⟨_, rfl⟩)]; rfl, ?_⟩
         exact .bool _)
  · cases h
theorem isBool_ty {P : Program} {c : Ctx Γ K β} (hty : TyOk P K c.X c.ty) {t : TypeId} (h : c.isBool t = true) : P.underlying t = some .bool := by
 unfold Ctx.isBool at h
 split at h
 ·rename_i s b z hi; exact (hty _ _ hi).kind
 ·cases h
theorem isSl_ty {P : Program} {c : Ctx Γ K β} (hty : TyOk P K c.X c.ty) {t : TypeId} (h : c.isSl t = true) : ∃ e, P.underlying t = some (.slice e) := by
 unfold Ctx.isSl at h
 split at h
 ·rename_i e he
  unfold Ctx.elem at he
  split at he
  ·rename_i s b z hi; cases he; exact ⟨_, ((hty _ _ hi).kind).1⟩
  ·cases he
 ·cases h
theorem binopT_sound {P : Program} {c : Ctx Γ K β} (hty : TyOk P K c.X c.ty) {t : TypeId} {op : BinOp} {x y : AV Γ} {kk : AV Γ → Option β} {b : β} (h : Q2k c t op x y kk = some b) :
  ∃ v : AV Γ, (∀ kk' : AV Γ → Option β, Q2k c t op x y kk' = kk' v) ∧ ∀ (w : World) (R : Rh Γ) (X Y : Operand) (xv yv : Value), VR K w R x xv → VR K w R y yv →
   ∃ r, (do eqGuard op t X Y xv yv; Go.binOp op t xv yv : Sem Value).run P w = .ok r w ∧ VR K w R v r := by
 cases x with
 | bool a =>
  cases y with
  | bool b' =>
   simp only [Q2k] at h
   cases hb : c.isBool t with
   | false => rw [hb] at h; cases h
   | true =>
    rw [hb] at h; simp only [cond_true] at h
    have hu := isBool_ty hty hb
    cases op <;> simp only at h <;> first | cases h | skip
    ·refine ⟨.bool (a == b'), fun kk' => by simp only [Q2k, hb, cond_true], fun w R X Y xv yv hx hy => ?_⟩
     cases hx; cases hy
     refine ⟨.bool (a == b'), ?_, .bool _⟩
     have e : (eqGuard .eql t X Y (.bool a) (.bool b')).run P w = .ok () w := by unfold eqGuard; rfl
     rw [Z17, e]
     simp only [Z24, Go.binOp, Z17, run_equal_bool w t a b' hu]
     rfl
    ·refine ⟨.bool (!(a == b')), fun kk' => by simp only [Q2k, hb, cond_true], fun w R X Y xv yv hx hy => ?_⟩
     cases hx; cases hy
     refine ⟨.bool (!(a == b')), ?_, .bool _⟩
     have e : (eqGuard .neq t X Y (.bool a) (.bool b')).run P w = .ok () w := by unfold eqGuard; rfl
     rw [Z17, e]
     simp only [Z24, Go.binOp, Z17, run_equal_bool w t a b' hu]
     rfl
  | _ => simp only [Q2k] at h; cases h
 | vs i e xs =>
  cases y with
  | nil =>
   simp only [Q2k] at h
   cases hb : c.isSl t with
   | false => rw [hb] at h; cases h
   | true =>
    rw [hb] at h; simp only [cond_true] at h
    obtain ⟨e', hu⟩ := isSl_ty hty hb
    have key : ∀ (w : World) (R : Rh Γ) (xv : Value), VR K w R (.vs i e xs) xv → ∃ a n cap, xv = .slice a n cap ∧ (xs.length.beq 0 = false → a.isNone = false) := by
     intro w R xv hx
     cases hx with
     | vs hr =>
      cases hr with
      | @sl own inner _ _ a n cap vs hl hc hr hv =>
       refine ⟨a, n, cap, rfl, fun h0 => ?_⟩
       cases a with
       | some a => rfl
       | none =>
        have hvs : vs = [] := by
         cases vs with
         | nil => rfl
         | cons u us => obtain ⟨ad, e1, _⟩ := hv 0 u rfl; cases e1
        subst hvs
        have := hr.length
        rw [Q2s] at this
        have hp := K.pos e
        cases xs with
        | nil => simp at h0
        | cons x xs => rw [Z2, Z6, Z70] at this; omega
    have eg : ∀ (w : World) X Y (op : BinOp) a n cap, (eqGuard op t X Y (.slice a n cap) (.slice none 0 0)).run P w = .ok () w := by
     intro w X Y op a n cap; unfold eqGuard; cases op <;> rfl
    cases op <;> simp only at h <;> first | cases h | skip
    ·cases hz : xs.length.beq 0 with
     | true =>
      refine ⟨.unk, fun kk' => by simp only [Q2k, hb, hz, cond_true], fun w R X Y xv yv hx hy => ?_⟩
      obtain ⟨a, n, cap, rfl, _⟩ := key w R xv hx
      cases hy
      refine ⟨.bool a.isNone, ?_, .unk _⟩
      rw [Z17, eg]
      simp only [Z24, Go.binOp, Z17, run_equal_slice_nil w t e' a n cap hu]
      rfl
     | false =>
      refine ⟨.bool false, fun kk' => by simp only [Q2k, hb, hz, cond_true, cond_false], fun w R X Y xv yv hx hy => ?_⟩
      obtain ⟨a, n, cap, rfl, hn⟩ := key w R xv hx
      cases hy
      refine ⟨.bool a.isNone, ?_, by rw [hn hz]; exact .bool _⟩
      rw [Z17, eg]
      simp only [Z24, Go.binOp, Z17, run_equal_slice_nil w t e' a n cap hu]
      rfl
    ·cases hz : xs.length.beq 0 with
     | true =>
      refine ⟨.unk, fun kk' => by simp only [Q2k, hb, hz, cond_true], fun w R X Y xv yv hx hy => ?_⟩
      obtain ⟨a, n, cap, rfl, _⟩ := key w R xv hx
      cases hy
      refine ⟨.bool (!a.isNone), ?_, .unk _⟩
      rw [Z17, eg]
      simp only [Z24, Go.binOp, Z17, run_equal_slice_nil w t e' a n cap hu]
      rfl
     | false =>
      refine ⟨.bool true, fun kk' => by simp only [Q2k, hb, hz, cond_true, cond_false], fun w R X Y xv yv hx hy => ?_⟩
      obtain ⟨a, n, cap, rfl, hn⟩ := key w R xv hx
      cases hy
      refine ⟨.bool (!a.isNone), ?_, by rw [hn hz]; exact .bool _⟩
      rw [Z17, eg]
      simp only [Z24, Go.binOp, Z17, run_equal_slice_nil w t e' a n cap hu]
      rfl
  | _ => simp only [Q2k] at h; cases h
 | _ =>
  simp only [Q2k] at h ⊢
  obtain ⟨v, h1, h2⟩ := binop_sound (P := P) (K := K) h
  exact ⟨v, h1, fun w R X Y xv yv hx hy => h2 w R t X Y xv yv hx hy⟩
theorem unop_sound {P : Program} {op : UnOp} {x : AV Γ} {kk : AV Γ → Option β} {b : β} (h : unop op x kk = some b) :
  ∃ v : AV Γ, (∀ kk' : AV Γ → Option β, unop op x kk' = kk' v) ∧ ∀ (w : World) (R : Rh Γ) (xv : Value), VR K w R x xv → ∃ r, (Op.unary op xv).run P w = .ok r w ∧ VR K w R v r := by
 unfold unop at h
 split at h <;> first
  | cases h
  | (refine ⟨_, fun kk' => rfl, fun w R xv hx => ?_⟩; cases hx; exact ⟨_, rfl, by first | exact .int _ _ | exact .bool _⟩)
end Go.Ev
/- Each operation's step: what reads memory. -/
namespace Go.Ev
variable {Γ : TypeId → Type} {K : Cod Γ} {β : Type}
theorem Q4I {P : Program} {t : TypeId} {fs : Array Field} (h : P.underlying t = some (.struct fs)) (w : World) : (isAgg t).run P w = .ok true w := by
 simp [isAgg, run_underlying h]
theorem run_isAgg_one {P : Program} {t : TypeId} {d : TypeDesc} (h : P.underlying t = some d) (h1 : ∀ fs, d ≠ .struct fs) (h2 : ∀ n e, d ≠ .array n e) (w : World) : (isAgg t).run P w = .ok false w := by
 simp only [isAgg, Z17, run_underlying h, Z24]
 cases d <;> first | rfl | exact absurd rfl (h1 _) | exact absurd rfl (h2 _ _)
theorem Q32 {P : Program} {t : TypeId} {i : TypeInfo} (h : P.info? t = some i) (w : World) : (sizeOf t).run P w = .ok i.size w := by
 simp [sizeOf, typeInfo, h]
theorem add_zero' (a : Addr) : a.add 0 = a := rfl
theorem add_lit (b o j : Nat) : (⟨b, o, none⟩ : Addr).add j = ⟨b, o + j, none⟩ := by unfold Addr.add; split <;> simp_all
theorem isAgg_ty {P : Program} {c : Ctx Γ K β} (hty : TyOk P K c.X c.ty) {t : TypeId} (h : c.isAgg t = true) : (∃ fs, P.underlying t = some (.struct fs)) ∧ ∃ i, P.info? t = some i ∧ i.size = c.size t := by
 unfold Ctx.isAgg at h
 split at h
 ·rename_i fs s b z hi
  have := hty _ _ hi
  obtain ⟨inf, h1, h2, _⟩ := this.info
  obtain ⟨fields, h3, _⟩ := this.kind
  exact ⟨⟨fields, h3⟩, inf, h1, by simp [Ctx.size, hi, h2]⟩
 ·cases h
theorem isOne_ty {P : Program} {c : Ctx Γ K β} (hty : TyOk P K c.X c.ty) {t : TypeId} (h : c.isOne t = true) : ∃ d, P.underlying t = some d ∧ (∀ fs, d ≠ .struct fs) ∧ ∀ n e, d ≠ .array n e := by
 unfold Ctx.isOne at h
 split at h
 ·cases h
 ·rename_i i hna hi
  have := (hty _ _ hi).kind
  cases hk : i.kind with
  | one => rw [hk] at this; obtain ⟨d, h1, h2, h3, _⟩ := this; exact ⟨d, h1, h2, h3⟩
  | bool => rw [hk] at this; exact ⟨_, this, by simp, by simp⟩
  | int k => rw [hk] at this; exact ⟨_, this, by simp, by simp⟩
  | str => rw [hk] at this; exact ⟨_, this, by simp, by simp⟩
  | sl e => rw [hk] at this; exact ⟨_, this.1, by simp, by simp⟩
  | agg fs => exact absurd hk (by intro e; cases i; simp only at e; subst e; exact hna _ _ _ _ rfl)
 ·cases h
theorem Q2w {P : Program} {c : Ctx Γ K β} (hty : TyOk P K c.X c.ty) {t e : TypeId} (h : c.elem t = some e) : P.underlying t = some (.slice e) ∧ ∃ ie, P.info? e = some ie ∧ ie.size = K.sz e ∧
   ∃ z, ie.zero = some z ∧ z.cells.size = K.sz e ∧ ∀ w A b, OwnL K w A (K.enc e b (c.X.zero e)) z.cells.toList [] := by
 unfold Ctx.elem at h
 split at h
 ·rename_i e' s b z hi
  cases h
  exact (hty _ _ hi).kind
 ·cases h
theorem Q3d {c : Ctx Γ K β} {t e : TypeId} (h : c.elemIs t e = true) : c.elem t = some e := by
 unfold Ctx.elemIs at h
 split at h
 ·rename_i e' he; rw [he, Nat.eq_of_beq_eq_true h]
 ·cases h
theorem isStr_ty {P : Program} {c : Ctx Γ K β} (hty : TyOk P K c.X c.ty) {t : TypeId} (h : c.isStr t = true) : P.underlying t = some .string := by
 unfold Ctx.isStr at h
 split at h
 ·rename_i s b z hi; exact (hty _ _ hi).kind
 ·cases h
theorem Q3e {P : Program} {c : Ctx Γ K β} (hty : TyOk P K c.X c.ty) {w : World} {a : Addr} {vs : List Value} (h : ∀ j u, vs[j]? = some u → w.cell? (a.add j) = some u) (t : TypeId) :
  (c.isAgg t = true → c.size t ≤ vs.length → (loadVar t a).run P w = .ok (.agg (vs.take (c.size t)).toArray) w) ∧
  (c.isOne t = true → ∀ v r, vs = v :: r → (loadVar t a).run P w = .ok v w) := by
 constructor
 ·intro ha hl
  obtain ⟨⟨fs, h1⟩, i, h2, h3⟩ := isAgg_ty hty ha
  have hlc := run_loadCells_list (P := P) w a (vs.take (c.size t)) (fun j u hu => by
   rw [Z55] at hu
   split at hu
   ·exact h j u hu
   ·cases hu)
  rw [Z8, Z68 hl] at hlc
  simp only [loadVar, Z17, Q4I h1, Z24, if_true, Q32 h2, h3, hlc]
  rfl
 ·intro ho v r hv
  subst hv
  obtain ⟨d, h1, h2, h3⟩ := isOne_ty hty ho
  have h0 := h 0 v rfl
  rw [add_zero'] at h0
  simp [loadVar, run_isAgg_one h1 h2 h3, h0]
mutual
theorem Own.shared {w : World} {A : Nat → Prop} {t : T Γ} {v : Value} {L : List Nat} : Own K w A t v L → t.plain = true → Ro K w A t v ∧ L = []
 | .int k n, _ => ⟨.int k n, rfl⟩
 | .bool b, _ => ⟨.bool b, rfl⟩
 | .str s, _ => ⟨.str s, rfl⟩
 | .ro h, _ => ⟨h, rfl⟩
 | .ptrRo h, _ => ⟨h, rfl⟩
 | .fn h, _ => ⟨h, rfl⟩
 | .sl _ _, h => by cases h
 | .ptr _ _, h => by cases h
theorem OwnL.shared {w : World} {A : Nat → Prop} {ts : List (T Γ)} {vs : List Value} {L : List Nat} : OwnL K w A ts vs L → (∀ t ∈ ts, t.plain = true) → RoL K w A ts vs ∧ L = []
 | .nil, _ => ⟨.nil, rfl⟩
 | .cons h k, hp => by
  obtain ⟨h1, rfl⟩ := Own.shared h (hp _ (by simp))
  obtain ⟨h2, rfl⟩ := OwnL.shared k (fun t ht => hp t (by simp [ht]))
  exact ⟨.cons h1 h2, rfl⟩
end
theorem own_elem {w : World} {A : Nat → Prop} {inner : Bool} {e : TypeId} {xs : List (Γ e)} {h : Value} {M : List Nat} (hO : Own K w A (.sl true inner e xs) h M) {i : Nat} {x : Γ e} (hx : xs[i]? = some x) :
  ∃ g n cap us L, h = .slice (some ⟨g, 0, none⟩) n cap ∧ n = xs.length ∧ us.length = K.sz e ∧ OwnL K w A (K.enc e inner x) us L ∧ (∀ b ∈ L, b ∈ M) ∧ ∀ j u, us[j]? = some u → w.cell? ⟨g, i * K.sz e + j, none⟩ = some u := by
 cases hO with
 | sl hr hl =>
  rename_i vs L0
  have hi : i < xs.length := by
   rcases Z34 i xs.length with h' | h'
   ·exact h'
   ·simp [Z21 h'] at hx
  rw [cells_mid inner e xs i x hx] at hl
  obtain ⟨v12, v3, L12, L3, e1, e2, h12, h3⟩ := hl.split
  obtain ⟨v1, v2, L1, L2, e3, e4, h1, h2⟩ := h12.split
  have hv1 : v1.length = i * K.sz e := by rw [← h1.length, Q2s, Z8, Z68 (Nat.le_of_lt hi)]
  have hv2 : v2.length = K.sz e := by rw [← h2.length, K.len]
  rcases hr.2 with ⟨_, hn⟩ | ⟨g, cap, cur, rfl, _⟩
  ·omega
  ·refine ⟨g, _, cap, v2, L2, rfl, rfl, hv2, h2, fun b hb => by simp [e2, e4, hb], fun j u hu => ?_⟩
   have hj : j < K.sz e := by
    rcases Z34 j v2.length with h' | h'
    ·omega
    ·simp [Z21 h'] at hu
   have hb : i * K.sz e + j < xs.length * K.sz e := by
    have : (i + 1) * K.sz e ≤ xs.length * K.sz e := Z64 _ hi
    rw [Z70] at this
    omega
   rw [hr.cellAt _ hb, e1, e3, Z94 (by rw [Z10]; omega), Z76 (by omega), hv1, Z101]
   exact hu
theorem enc_plain {X : CodX K} {e : TypeId} {inner : Bool} (h : (!inner || X.flat e) = true) (x : Γ e) : ∀ t ∈ K.enc e inner x, t.plain = true := by
 cases inner with
 | false => exact X.plain e x
 | true => rw [X.flatOk e (by simpa using h)]; exact X.plain e x
theorem beq_eq {a b : Nat} (h : a.beq b = true) : a = b := Nat.eq_of_beq_eq_true h
theorem Q2i {a b : Nat} (h : a.ble b = true) : a ≤ b := Nat.le_of_ble_eq_true h
theorem loadAt_sound {P : Program} {c : Ctx Γ K β} (hty : TyOk P K c.X c.ty) {loc : Nat → LV Γ} {t : TypeId} {x : AV Γ} {kk : AV Γ → Option β} {b : β} (h : loadAt c loc t x kk = some b) :
  ∃ v : AV Γ, (∀ kk' : AV Γ → Option β, loadAt c loc t x kk' = kk' v) ∧ ∀ (w : World) (R : Rh Γ) (M : Nat → List Nat) (own : Nat → Option Nat) (mine : Nat → Prop) (xv : Value), R.loc = loc → Locs K w R M own mine → VR K w R x xv →
   ∃ r, (Instr.loadAt t xv).run P w = .ok r w ∧ VR K w R v r := by
 unfold loadAt at h
 split at h
 ·-- a shared address
  rename_i cs
  cases hA : c.isAgg t with
  | true =>
   rw [hA] at h
   simp only [cond_true] at h
   cases hB : (c.size t).ble cs.length with
   | false => rw [hB] at h; cases h
   | true =>
    refine ⟨_, fun kk' => by simp only [loadAt, hA, hB, cond_true]; rfl, fun w R M own mine xv hloc hL hx => ?_⟩
    cases hx with
    | vp hro =>
     cases hro with
     | ptr hr hv =>
      rename_i a vs
      refine ⟨_, (Q3e hty (fun j u hu => (hv j u hu).2) t).1 hA (by rw [← hr.length]; exact Q2i hB), .agg (VR.shT.go (hr.take _))⟩
  | false =>
   rw [hA] at h
   simp only [cond_false] at h
   cases hB : c.isOne t with
   | false => rw [hB] at h; cases h
   | true =>
    rw [hB] at h
    simp only [cond_true] at h
    cases cs with
    | nil => cases h
    | cons y ys =>
     refine ⟨_, fun kk' => by simp only [loadAt, hA, hB, cond_true, cond_false]; rfl, fun w R M own mine xv hloc hL hx => ?_⟩
     cases hx with
     | vp hro =>
      cases hro with
      | ptr hr hv =>
       cases hr with
       | cons h1 h2 => exact ⟨_, (Q3e hty (fun j u hu => (hv j u hu).2) t).2 hB _ _ rfl, (VR.shT h1).1⟩
 ·-- a variable of one's own
  rename_i b' off
  cases hloc' : loc b' with
  | box bt cs =>
   rw [hloc'] at h
   simp only at h
   have look : ∀ (w : World) (R : Rh Γ) (M : Nat → List Nat) (own : Nat → Option Nat) (mine : Nat → Prop) (xv : Value), R.loc = loc → Locs K w R M own mine → VR K w R (.ptr b' off) xv →
     ∃ ad us, xv = .pointer (some ad) ∧ VRL K w R (cs.drop off) us ∧ ∀ j u, us[j]? = some u → w.cell? (ad.add j) = some u := by
    intro w R M own mine xv hl hL hx
    cases hx with
    | ptr hN h1 =>
     rename_i g
     have hlr := hL.lr b'
     rw [hl, hloc'] at hlr
     obtain ⟨g', cc, e1, e2, e3, e4⟩ := hlr
     have := h1 bt cs (by rw [hl, hloc'])
     rw [e1] at this
     obtain rfl : g' = g := by injection this with this; injection this with this; injection this
     refine ⟨⟨g', off, none⟩, cc.toList.drop off, rfl, e4.drop off, fun j u hu => ?_⟩
     rw [add_lit, cell_of_row w g' _ cc bt (0, 0) e3]
     rw [Z61] at hu
     simpa using hu
   cases hA : c.isAgg t with
   | true =>
    rw [hA] at h
    simp only [cond_true] at h
    cases hB : (off + c.size t).ble cs.length with
    | false => rw [hB] at h; cases h
    | true =>
     refine ⟨_, fun kk' => by simp only [loadAt, hloc', hA, hB, cond_true]; rfl, fun w R M own mine xv hl hL hx => ?_⟩
     obtain ⟨ad, us, rfl, h1, h2⟩ := look w R M own mine xv hl hL hx
     have hle := Q2i hB
     exact ⟨_, (Q3e hty h2 t).1 hA (by rw [← h1.length, Z19]; omega), .agg (h1.take _)⟩
   | false =>
    rw [hA] at h
    simp only [cond_false] at h
    cases hB : c.isOne t with
    | false => rw [hB] at h; cases h
    | true =>
     rw [hB] at h
     simp only [cond_true] at h
     cases hC : cs[off]? with
     | none => rw [hC] at h; cases h
     | some y =>
      refine ⟨y, fun kk' => by simp only [loadAt, hloc', hA, hB, cond_true, cond_false, hC], fun w R M own mine xv hl hL hx => ?_⟩
      obtain ⟨ad, us, rfl, h1, h2⟩ := look w R M own mine xv hl hL hx
      obtain ⟨u, hu, hv, _⟩ := h1.get (i := 0) (x := y) (by rw [Z61]; simpa using hC)
      cases us with
      | nil => simp at hu
      | cons u' us' =>
       simp at hu; subst hu
       exact ⟨_, (Q3e hty h2 t).2 hB _ _ rfl, hv⟩
  | _ => rw [hloc'] at h; cases h
 ·-- a place in an element of a row of one's own
  rename_i r g i off
  cases hloc' : loc r with
  | row g' inner e xs =>
   rw [hloc'] at h
   simp only at h
   cases hC : (g.beq g' && (!inner || c.X.flat e)) with
   | false => rw [hC] at h; cases h
   | true =>
    rw [hC] at h
    simp only [cond_true] at h
    have hC' := hC
    rw [Z4] at hC'
    obtain ⟨hg, hfl⟩ := hC'
    have hg := beq_eq hg
    subst hg
    cases hx : xs[i]? with
    | none => rw [hx] at h; cases h
    | some y =>
     rw [hx] at h
     simp only [Z0] at h
     have look : ∀ (w : World) (R : Rh Γ) (M : Nat → List Nat) (own : Nat → Option Nat) (mine : Nat → Prop) (xv : Value), R.loc = loc → Locs K w R M own mine → VR K w R (.er r g i off) xv →
       ∃ ad us, xv = .pointer (some ad) ∧ RoL K w R.A ((K.enc e inner y).drop off) us ∧ ∀ j u, us[j]? = some u → w.cell? (ad.add j) = some u := by
      intro w R M own mine xv hl hL hxv
      cases hxv with
      | er hN h1 =>
       rename_i ad
       have hlr := hL.lr r
       rw [hl, hloc'] at hlr
       obtain ⟨b2, n2, c2, us, L, e1, _, e3, e4, _, e6⟩ := own_elem hlr hx
       obtain ⟨_, b3, n3, c3, e7, rfl⟩ := h1 inner e xs (by rw [hl, hloc'])
       rw [e1] at e7
       obtain rfl : b2 = b3 := by injection e7 with e7; injection e7 with e7; injection e7
       refine ⟨_, us.drop off, rfl, (e4.shared (enc_plain hfl y)).1.drop off, fun j u hu => ?_⟩
       rw [add_lit, Z65]
       rw [Z61] at hu
       exact e6 _ u hu
     cases hA : c.isAgg t with
     | true =>
      rw [hA] at h
      simp only [cond_true] at h
      cases hB : (c.size t).ble ((K.enc e inner y).drop off).length with
      | false => rw [hB] at h; cases h
      | true =>
       refine ⟨_, fun kk' => by simp only [loadAt, hloc', hC, hx, hA, hB, cond_true, Z0]; rfl, fun w R M own mine xv hl hL hxv => ?_⟩
       obtain ⟨ad, us, rfl, h1, h2⟩ := look w R M own mine xv hl hL hxv
       exact ⟨_, (Q3e hty h2 t).1 hA (by rw [← h1.length]; exact Q2i hB), .agg (VR.shT.go (h1.take _))⟩
     | false =>
      rw [hA] at h
      simp only [cond_false] at h
      cases hB : c.isOne t with
      | false => rw [hB] at h; cases h
      | true =>
       rw [hB] at h
       simp only [cond_true] at h
       cases hD : (K.enc e inner y).drop off with
       | nil => rw [hD] at h; cases h
       | cons z zs =>
        refine ⟨shT z, fun kk' => by simp only [loadAt, hloc', hC, hx, hA, hB, cond_true, cond_false, Z0, hD], fun w R M own mine xv hl hL hxv => ?_⟩
        obtain ⟨ad, us, rfl, h1, h2⟩ := look w R M own mine xv hl hL hxv
        rw [hD] at h1
        cases h1 with
        | cons k1 k2 => exact ⟨_, (Q3e hty h2 t).2 hB _ _ rfl, (VR.shT k1).1⟩
  | _ => rw [hloc'] at h; cases h
 ·cases h
end Go.Ev
/- Each operation's step: indices, parts, lengths. -/
namespace Go.Ev
variable {Γ : TypeId → Type} {K : Cod Γ} {β : Type}
theorem at?_some {α : Type} {xs : List α} {i : Int} {x : α} (h : at? xs i = some x) : 0 ≤ i ∧ i < xs.length ∧ xs[i.toNat]? = some x := by
 unfold at? at h
 cases hd : decide (0 ≤ i) with
 | false => rw [hd] at h; cases h
 | true =>
  rw [hd] at h
  simp only [cond_true] at h
  have h0 := of_decide_eq_true hd
  refine ⟨h0, ?_, h⟩
  have : i.toNat < xs.length := by
   rcases Z34 i.toNat xs.length with h' | h'
   ·exact h'
   ·simp [Z21 h'] at h
  omega
theorem Q3X {P : Program} {t e : TypeId} {ie : TypeInfo} (ht : P.underlying t = some (.slice e)) (hi : P.info? e = some ie) (w : World) (a : Addr) (n cap : Nat) (k : IntKind) (i : Int) (h0 : 0 ≤ i) (hn : i < n) :
  (Instr.indexAt t (.slice (some a) n cap) (.int k i)).run P w = .ok (.pointer (some (a.add (i.toNat * ie.size)))) w := by
 simp only [Instr.indexAt, asIntOf, Z17, Z46, Z24, run_underlying ht, h0, hn, and_self, if_true, Q32 hi]
theorem add_add (a : Addr) (i j : Nat) : (a.add i).add j = a.add (i + j) := by
 unfold Addr.add
 by_cases hi : i = 0
 ·subst hi; simp
 ·by_cases hj : j = 0
  ·subst hj; simp [hi]
  ·have : ¬ (i + j = 0) := by omega
   simp [hi, hj, Z65]
theorem ro_elem {w : World} {A : Nat → Prop} {own inner : Bool} {e : TypeId} {xs : List (Γ e)} {v : Value} (h : Ro K w A (.sl own inner e xs) v) {i : Nat} {x : Γ e} (hx : xs[i]? = some x) :
  ∃ ad n cap, v = .slice (some ad) n cap ∧ n = xs.length ∧ Ro K w A (.ptr false 0 (K.enc e inner x)) (.pointer (some (ad.add (i * K.sz e)))) := by
 cases h with
 | sl hl hc hr hv =>
  rename_i a n cap vs
  have hi : i < xs.length := by
   rcases Z34 i xs.length with h' | h'
   ·exact h'
   ·simp [Z21 h'] at hx
  have hpos := K.pos e
  have hlen : vs.length = xs.length * K.sz e := by rw [← hr.length, Q2s]
  have hrm := hr
  rw [cells_mid inner e xs i x hx, Z28] at hrm
  have hd := hrm.drop (cells K inner e (xs.take i)).length
  rw [List.drop_left] at hd
  have ht := hd.take (K.enc e inner x).length
  rw [List.take_left] at ht
  have hl1 : (cells K inner e (xs.take i)).length = i * K.sz e := by rw [Q2s, Z8, Z68 (Nat.le_of_lt hi)]
  rw [hl1, K.len] at ht
  have hbound : i * K.sz e + K.sz e ≤ vs.length := by
   rw [hlen, ← Z70]; exact Z64 _ hi
  obtain ⟨ad, rfl, hA, _⟩ := hv (i * K.sz e) (vs[i * K.sz e]'(by omega)) (Z3 _)
  refine ⟨ad, n, cap, rfl, hl, .ptr ht fun j u hu => ?_⟩
  rw [Z55] at hu
  split at hu
  ·rw [Z61] at hu
   obtain ⟨ad', e1, h1, h2⟩ := hv _ u hu
   cases e1
   refine ⟨by rw [add_block]; exact h1, ?_⟩
   rw [add_add]; exact h2
  ·cases hu
theorem indexAt_sound {P : Program} {c : Ctx Γ K β} (hty : TyOk P K c.X c.ty) {loc : Nat → LV Γ} {t : TypeId} {x i : AV Γ} {kk : AV Γ → Option β} {b : β} (h : indexAt c loc t x i kk = some b) :
  ∃ v : AV Γ, (∀ kk' : AV Γ → Option β, indexAt c loc t x i kk' = kk' v) ∧ ∀ (w : World) (R : Rh Γ) (M : Nat → List Nat) (own : Nat → Option Nat) (mine : Nat → Prop) (xv iv : Value), R.loc = loc → Locs K w R M own mine → VR K w R x xv → VR K w R i iv →
   ∃ r, (Instr.indexAt t xv iv).run P w = .ok r w ∧ VR K w R v r := by
 unfold indexAt at h
 split at h
 ·rename_i k i
  split at h
  ·-- shared
   rename_i inner e xs
   cases hE : c.elemIs t e with
   | false => rw [hE] at h; cases h
   | true =>
    rw [hE] at h; simp only [cond_true] at h
    cases hx : at? xs i with
    | none => rw [hx] at h; cases h
    | some y =>
     obtain ⟨h0, hn, hxi⟩ := at?_some hx
     refine ⟨.vp (K.enc e inner y), fun kk' => by simp only [indexAt, hE, hx, cond_true, Z0], fun w R M own mine xv iv hl hL hxv hiv => ?_⟩
     cases hiv
     cases hxv with
     | vs hro =>
      obtain ⟨ad, n, cap, rfl, rfl, hp⟩ := ro_elem hro hxi
      obtain ⟨hu, ie, h2, h3, _⟩ := Q2w hty (Q3d hE)
      exact ⟨_, Q3X hu h2 w ad _ cap k i h0 hn, by rw [h3]; exact .vp hp⟩
  ·-- a whole row of one's own
   rename_i r g
   cases hloc : loc r with
   | row g' inner e xs =>
    rw [hloc] at h; simp only at h
    cases hE : (g.beq g' && c.elemIs t e) with
    | false => rw [hE] at h; cases h
    | true =>
     rw [hE] at h; simp only [cond_true] at h
     have hE' := hE
     rw [Z4] at hE'
     obtain ⟨hg, hE'⟩ := hE'
     have hg := beq_eq hg
     subst hg
     cases hx : at? xs i with
     | none => rw [hx] at h; cases h
     | some y =>
      obtain ⟨h0, hn, hxi⟩ := at?_some hx
      refine ⟨.er r g i.toNat 0, fun kk' => by simp only [indexAt, hloc, hE, hx, cond_true, Z0], fun w R M own mine xv iv hl hL hxv hiv => ?_⟩
      cases hiv
      cases hxv with
      | sl hN hs h1 h2' =>
       have hv := h1 inner e xs (by rw [hl, hloc])
       have hlr := hL.lr r
       rw [hl, hloc] at hlr
       obtain ⟨gb, n, cap, us, L, e1, rfl, _⟩ := own_elem hlr hxi
       rw [e1] at hv
       subst hv
       obtain ⟨hu, ie, h2, h3, _⟩ := Q2w hty (Q3d hE')
       refine ⟨_, Q3X hu h2 w ⟨gb, 0, none⟩ _ cap k i h0 hn, ?_⟩
       rw [h3, add_lit, Z25]
       refine .er hN fun j e' xs' he => ?_
       rw [hl, hloc] at he
       cases he
       exact ⟨by omega, gb, _, cap, e1, rfl⟩
   | frow g' inner e xs =>
    rw [hloc] at h; simp only at h
    cases hE : (g.beq g' && c.elemIs t e) with
    | false => rw [hE] at h; cases h
    | true =>
     rw [hE] at h; simp only [cond_true] at h
     have hE' := hE
     rw [Z4] at hE'
     obtain ⟨hg, hE'⟩ := hE'
     have hg := beq_eq hg
     subst hg
     cases hx : at? xs i with
     | none => rw [hx] at h; cases h
     | some y =>
      obtain ⟨h0, hn, hxi⟩ := at?_some hx
      refine ⟨.vp (K.enc e inner y), fun kk' => by simp only [indexAt, hloc, hE, hx, cond_true, Z0], fun w R M own mine xv iv hl hL hxv hiv => ?_⟩
      cases hiv
      cases hxv with
      | sl hN hs h1 h2' =>
       have hv := h2' inner e xs (by rw [hl, hloc])
       have hlr := hL.lr r
       rw [hl, hloc] at hlr
       obtain ⟨ad, n, cap, e1, rfl, hp⟩ := ro_elem hlr hxi
       rw [e1] at hv
       subst hv
       obtain ⟨hu, ie, h2, h3, _⟩ := Q2w hty (Q3d hE')
       exact ⟨_, Q3X hu h2 w ad _ cap k i h0 hn, by rw [h3]; exact .vp hp⟩
   | _ => rw [hloc] at h; cases h
  ·-- a part of a row of one's own
   rename_i r g off len
   cases hloc : loc r with
   | row g' inner e xs =>
    rw [hloc] at h; simp only at h
    cases hE : (g.beq g' && c.elemIs t e) with
    | false => rw [hE] at h; cases h
    | true =>
     rw [hE] at h; simp only [cond_true] at h
     have hE' := hE
     rw [Z4] at hE'
     obtain ⟨hg, hE'⟩ := hE'
     have hg := beq_eq hg
     subst hg
     cases hx : decide (0 ≤ i ∧ i < (len : Int)) with
     | false => rw [hx] at h; cases h
     | true =>
      obtain ⟨h0, hn⟩ := of_decide_eq_true hx
      refine ⟨.er r g (off + i.toNat) 0, fun kk' => by simp only [indexAt, hloc, hE, hx, cond_true], fun w R M own mine xv iv hl hL hxv hiv => ?_⟩
      cases hiv
      cases hxv with
      | sv hN hcap h1 =>
       obtain ⟨hlen, hpos, _⟩ := h1 inner e xs (by rw [hl, hloc])
       obtain ⟨gb, n, cap, e1, rfl⟩ := hpos (by omega)
       obtain ⟨hu, ie, h2, h3, _⟩ := Q2w hty (Q3d hE')
       refine ⟨_, Q3X hu h2 w _ _ _ k i h0 hn, ?_⟩
       rw [h3, add_lit, ← Z66]
       refine .er hN fun j e' xs' he => ?_
       rw [hl, hloc] at he
       cases he
       exact ⟨by omega, gb, _, cap, e1, rfl⟩
   | _ => rw [hloc] at h; cases h
  ·cases h
 ·cases h
theorem Q3E {w : World} {A : Nat → Prop} {inner : Bool} {e : TypeId} {xs : List (Γ e)} {h : Value} {M : List Nat} (hO : Own K w A (.sl true inner e xs) h M) : ∃ a cap, h = .slice a xs.length cap ∧ xs.length ≤ cap := by
 cases hO with
 | sl hr _ => exact Q30 hr
theorem lenOf_sound {P : Program} {c : Ctx Γ K β} (hty : TyOk P K c.X c.ty) {loc : Nat → LV Γ} {t ty : TypeId} {x : AV Γ} {kk : AV Γ → Option β} {b : β} (h : lenOf c loc t x kk = some b) :
  ∃ v : AV Γ, (∀ kk' : AV Γ → Option β, lenOf c loc t x kk' = kk' v) ∧ ∀ (w : World) (R : Rh Γ) (M : Nat → List Nat) (own : Nat → Option Nat) (mine : Nat → Prop) (xv : Value), R.loc = loc → Locs K w R M own mine → VR K w R x xv →
   ∃ r, (Builtin.len_ #[t] ty #[xv]).run P w = .ok r w ∧ VR K w R v r := by
 have sl : ∀ (n : Nat), c.isSl t = true → ∀ (w : World) (a : Option Addr) (cap : Nat), (Builtin.len_ #[t] ty #[.slice a n cap]).run P w = .ok (.int .i64 n) w := by
  intro n hs w a cap
  unfold Ctx.isSl at hs
  split at hs
  ·rename_i e he
   simp [Builtin.len_, run_underlying (Q2w hty he).1, goInt]
  ·cases hs
 unfold lenOf at h
 split at h
 ·rename_i s
  cases hS : c.isStr t with
  | false => rw [hS] at h; cases h
  | true =>
   refine ⟨_, fun kk' => by simp only [lenOf, hS, cond_true]; rfl, fun w R M own mine xv hl hL hxv => ?_⟩
   cases hxv
   exact ⟨.int .i64 s.size, by simp [Builtin.len_, run_underlying (isStr_ty hty hS), goInt], .int _ _⟩
 ·rename_i i e xs
  cases hS : c.isSl t with
  | false => rw [hS] at h; cases h
  | true =>
   refine ⟨_, fun kk' => by simp only [lenOf, hS, cond_true]; rfl, fun w R M own mine xv hl hL hxv => ?_⟩
   cases hxv with
   | vs hro => cases hro with | sl hl' _ _ _ => subst hl'; exact ⟨_, sl _ hS w _ _, .int _ _⟩
 ·rename_i r g
  cases hS : c.isSl t with
  | false => rw [hS] at h; cases h
  | true =>
   rw [hS] at h; simp only [cond_true] at h
   cases hloc : loc r with
   | row g' inner e xs =>
    rw [hloc] at h; simp only at h
    cases hg : g.beq g' with
    | false => rw [hg] at h; cases h
    | true =>
     refine ⟨.int .i64 xs.length, fun kk' => by simp only [lenOf, hS, hloc, hg, cond_true], fun w R M own mine xv hl hL hxv => ?_⟩
     have hg := beq_eq hg
     subst hg
     cases hxv with
     | sl hN hs h1 h2 =>
      have hv := h1 inner e xs (by rw [hl, hloc])
      have hlr := hL.lr r
      rw [hl, hloc] at hlr
      obtain ⟨a, cap, e1, _⟩ := Q3E hlr
      rw [e1] at hv; subst hv
      exact ⟨_, sl _ hS w _ _, .int _ _⟩
   | frow g' inner e xs =>
    rw [hloc] at h; simp only at h
    cases hg : g.beq g' with
    | false => rw [hg] at h; cases h
    | true =>
     refine ⟨.int .i64 xs.length, fun kk' => by simp only [lenOf, hS, hloc, hg, cond_true], fun w R M own mine xv hl hL hxv => ?_⟩
     have hg := beq_eq hg
     subst hg
     cases hxv with
     | sl hN hs h1 h2 =>
      have hv := h2 inner e xs (by rw [hl, hloc])
      have hlr := hL.lr r
      rw [hl, hloc] at hlr
      obtain ⟨a, n, cap, e1⟩ := hs
      rw [e1] at hv
      rw [LR, ← hv] at hlr
      cases hlr with
      | sl hl' _ _ _ => subst hl'; subst e1; exact ⟨_, sl _ hS w _ _, .int _ _⟩
   | _ => rw [hloc] at h; cases h
 ·rename_i r g off len
  cases hS : c.isSl t with
  | false => rw [hS] at h; cases h
  | true =>
   refine ⟨.int .i64 len, fun kk' => by simp only [lenOf, hS, cond_true], fun w R M own mine xv hl hL hxv => ?_⟩
   cases hxv with
   | sv hN hcap h1 => exact ⟨_, sl _ hS w _ _, .int _ _⟩
 ·cases hS : c.isSl t with
  | false => rw [hS] at h; cases h
  | true =>
   refine ⟨.int .i64 0, fun kk' => by simp only [lenOf, hS, cond_true], fun w R M own mine xv hl hL hxv => ?_⟩
   cases hxv
   exact ⟨_, sl 0 hS w _ _, .int _ _⟩
 ·cases h
end Go.Ev
/- Each operation's step: parts of slices, conversions, fields. -/
namespace Go.Ev
variable {Γ : TypeId → Type} {K : Cod Γ} {β : Type}
theorem own_block {w : World} {A : Nat → Prop} {inner : Bool} {e : TypeId} {xs : List (Γ e)} {h : Value} {M : List Nat} (hO : Own K w A (.sl true inner e xs) h M) :
  xs = [] ∨ ∃ g cap, h = .slice (some ⟨g, 0, none⟩) xs.length cap := by
 cases hO with
 | sl hr _ =>
  rcases hr.2 with ⟨_, hn⟩ | ⟨gb, cap', cur, hh, _⟩
  ·exact .inl (Z69 hn)
  ·exact .inr ⟨gb, cap', hh⟩
theorem own_nilOr {w : World} {A : Nat → Prop} {inner : Bool} {e : TypeId} {xs : List (Γ e)} {h : Value} {M : List Nat} (hO : Own K w A (.sl true inner e xs) h M) :
  h = .slice none 0 0 ∨ ∃ g cap, h = .slice (some ⟨g, 0, none⟩) xs.length cap := by
 cases hO with
 | sl hr _ =>
  rcases hr.2 with ⟨hn, _⟩ | ⟨gb, cap', cur, hh, _⟩
  ·exact .inl hn
  ·exact .inr ⟨gb, cap', hh⟩
inductive VRO (K : Cod Γ) (w : World) (R : Rh Γ) : Option (AV Γ) → Option Value → Prop
 | none : VRO K w R none none
 | some {x v} (h : VR K w R x v) : VRO K w R (some x) (some v)
theorem run_sliceBound {P : Program} (k : IntKind) (i : Int) (y : Nat) (code : BoundsCode) (w : World) (h0 : 0 ≤ i) (h1 : i ≤ y) : (Instr.sliceBound (.int k i) y code).run P w = .ok i.toNat w := by
 simp [Instr.sliceBound, asIntOf, h0, h1]
theorem lowB_sound {P : Program} {lo : Option (AV Γ)} {u : Nat} {kk : Nat → Nat → Option β} {b : β} (h : lowB lo u kk = some b) :
  ∃ l : Nat, l ≤ u ∧ (∀ kk' : Nat → Nat → Option β, lowB lo u kk' = kk' l u) ∧ ∀ (w : World) (R : Rh Γ) (lv : Option Value), VRO K w R lo lv →
   (lv = none ∧ l = 0) ∨ ∃ v, lv = some v ∧ ∀ code, (Instr.sliceBound v u code).run P w = .ok l w := by
 cases lo with
 | none => exact ⟨0, Z20 _, fun _ => rfl, fun w R lv hl => by cases hl; exact .inl ⟨rfl, rfl⟩⟩
 | some x =>
  cases x with
  | int k l =>
   simp only [lowB] at h ⊢
   cases hd : decide (0 ≤ l ∧ l ≤ (u : Int)) with
   | false => rw [hd] at h; cases h
   | true =>
    obtain ⟨h0, h1⟩ := of_decide_eq_true hd
    refine ⟨l.toNat, by omega, fun _ => rfl, fun w R lv hl => ?_⟩
    cases hl with
    | some hv => cases hv; exact .inr ⟨_, rfl, fun code => run_sliceBound k l u code w h0 h1⟩
  | _ => cases h
theorem Q3F {P : Program} {len : Nat} {lo hi : Option (AV Γ)} {kk : Nat → Nat → Option β} {b : β} (h : bounds len lo hi kk = some b) :
  ∃ l u : Nat, (∀ kk' : Nat → Nat → Option β, bounds len lo hi kk' = kk' l u) ∧ l ≤ u ∧ u ≤ len ∧ ∀ (w : World) (R : Rh Γ) (isSl : Bool) (cap : Nat) (lv hv : Option Value), len ≤ cap → VRO K w R lo lv → VRO K w R hi hv →
   (Instr.sliceBounds isSl len cap lv hv none).run P w = .ok (l, u, cap) w := by
 unfold bounds at h
 cases hi with
 | none =>
  simp only at h
  obtain ⟨l, h1, h2, h3⟩ := lowB_sound (P := P) (K := K) h
  refine ⟨l, len, fun kk' => h2 kk', h1, Z7 _, fun w R isSl cap lv hv hc hlo hhi => ?_⟩
  cases hhi
  rcases h3 w R lv hlo with ⟨rfl, rfl⟩ | ⟨v, rfl, hr⟩
  ·rfl
  ·simp only [Instr.sliceBounds, Z17, Z46, Z24, hr]
 | some x =>
  cases x with
  | int k u =>
   simp only at h
   cases hd : decide (0 ≤ u ∧ u ≤ (len : Int)) with
   | false => rw [hd] at h; cases h
   | true =>
    rw [hd] at h
    simp only [cond_true] at h
    obtain ⟨h0, hle⟩ := of_decide_eq_true hd
    obtain ⟨l, h1, h2, h3⟩ := lowB_sound (P := P) (K := K) h
    refine ⟨l, u.toNat, fun kk' => by unfold bounds; simp only [hd, cond_true]; exact h2 kk', h1, by omega, fun w R isSl cap lv hv hc hlo hhi => ?_⟩
    cases hhi with
    | some hx =>
     cases hx
     have e2 := run_sliceBound (P := P) k u cap (if isSl then .sliceAcap else .sliceAlen) w h0 (by omega)
     rcases h3 w R lv hlo with ⟨rfl, rfl⟩ | ⟨v, rfl, hr⟩
     ·simp only [Instr.sliceBounds, Z17, Z46, Z24, e2]
     ·simp only [Instr.sliceBounds, Z17, Z46, Z24, e2, hr]
  | _ => cases h
theorem Q4n {P : Program} {t e : TypeId} {ie : TypeInfo} (ht : P.underlying t = some (.slice e)) (hi : P.info? e = some ie) (w : World) (a : Option Addr) (n cap l u : Nat) (lv hv : Option Value)
  (hb : (Instr.sliceBounds true n cap lv hv none).run P w = .ok (l, u, cap) w) :
  (Instr.sliceAt t (.slice a n cap) lv hv none).run P w = .ok (.slice (if cap = l then a else a.map (·.add (l * ie.size))) (u - l) (cap - l)) w := by
 simp only [Instr.sliceAt, Z17, run_underlying ht, Z24, Instr.slice, hb, Q32 hi]
 rfl
theorem sliceOf_sound {P : Program} {c : Ctx Γ K β} (hty : TyOk P K c.X c.ty) {loc : Nat → LV Γ} {t : TypeId} {x : AV Γ} {lo hi : Option (AV Γ)} {kk : AV Γ → Option β} {b : β} (h : Q2g c loc t x lo hi kk = some b) :
  ∃ v : AV Γ, (∀ kk' : AV Γ → Option β, Q2g c loc t x lo hi kk' = kk' v) ∧ ∀ (w : World) (R : Rh Γ) (M : Nat → List Nat) (own : Nat → Option Nat) (mine : Nat → Prop) (xv : Value) (lv hv : Option Value), R.loc = loc → Locs K w R M own mine → VR K w R x xv → VRO K w R lo lv → VRO K w R hi hv →
   ∃ r, (Instr.sliceAt t xv lv hv none).run P w = .ok r w ∧ VR K w R v r := by
 -- a shared slice's part
 have sh : ∀ (inner : Bool) (e : TypeId) (xs : List (Γ e)) (l u : Nat), c.elemIs t e = true → l ≤ u → u ≤ xs.length → (∀ (w : World) (R : Rh Γ) (isSl : Bool) (cap : Nat) (lv hv : Option Value), xs.length ≤ cap → VRO K w R lo lv → VRO K w R hi hv →
   (Instr.sliceBounds isSl xs.length cap lv hv none).run P w = .ok (l, u, cap) w) → ∀ (w : World) (R : Rh Γ) (xv : Value) (lv hv : Option Value), Ro K w R.A (.sl false inner e xs) xv → VRO K w R lo lv → VRO K w R hi hv →
   ∃ r, (Instr.sliceAt t xv lv hv none).run P w = .ok r w ∧ VR K w R (.vs inner e ((xs.take u).drop l)) r := by
  intro inner e xs l u hE hlu hul hb w R xv lv hv hro hlo hhi
  obtain ⟨hu, ie, h2, h3, _⟩ := Q2w hty (Q3d hE)
  cases hro with
  | sl hl hc hr hvv =>
   rename_i a n cap vs
   subst hl
   refine ⟨_, Q4n hu h2 w a _ cap l u lv hv (hb w R true cap lv hv hc hlo hhi), .vs (.sl (vs := (vs.take (u * K.sz e)).drop (l * K.sz e)) ?_ (by omega) ?_ ?_)⟩
   ·rw [Z19, Z8]; omega
   ·rw [cells_drop, Q3V]; exact (hr.take _).drop _
   ·intro j w' hj
    rw [Z61, Z55] at hj
    split at hj
    ·obtain ⟨ad, rfl, hA, hcell⟩ := hvv _ _ hj
     have hlen : vs.length = xs.length * K.sz e := by rw [← hr.length, Q2s]
     have hlt : l * K.sz e + j < xs.length * K.sz e := by
      rcases Z34 (l * K.sz e + j) vs.length with h' | h'
      ·omega
      ·simp [Z21 h'] at hj
     have hll : l < xs.length := by
      rcases Z34 l xs.length with h' | h'
      ·exact h'
      ·have := Z64 (K.sz e) h'; omega
     have hne : ¬ cap = l := by omega
     refine ⟨ad.add (l * K.sz e), by rw [if_neg hne, h3]; rfl, by rw [add_block]; exact hA, by rw [add_add]; exact hcell⟩
    ·cases hj
 unfold Q2g at h
 split at h
 ·rename_i s
  cases hS : c.isStr t with
  | false => rw [hS] at h; cases h
  | true =>
   rw [hS] at h; simp only [cond_true] at h
   obtain ⟨l, u, e, h1, h2, h3⟩ := Q3F (P := P) (K := K) h
   refine ⟨.str (s.extract l u), fun kk' => by simp only [Q2g, hS, cond_true, e], fun w R M own mine xv lv hv hl hL hxv hlo hhi => ?_⟩
   cases hxv
   have hb := h3 w R false s.size lv hv (Z7 _) hlo hhi
   refine ⟨.string (s.extract l u), ?_, .str _⟩
   simp only [Instr.sliceAt, Z17, run_underlying (isStr_ty hty hS), Z24, Instr.slice, Option.isSome_none, Z77, if_false, hb]
   rfl
 ·rename_i inner e xs
  cases hE : c.elemIs t e with
  | false => rw [hE] at h; cases h
  | true =>
   rw [hE] at h; simp only [cond_true] at h
   obtain ⟨l, u, eq, h1, h2, h3⟩ := Q3F (P := P) (K := K) h
   refine ⟨_, fun kk' => by simp only [Q2g, hE, cond_true, eq]; rfl, fun w R M own mine xv lv hv hl hL hxv hlo hhi => ?_⟩
   cases hxv with
   | vs hro => exact sh inner e xs l u hE h1 h2 h3 w R _ lv hv hro hlo hhi
 ·rename_i r g
  cases hloc : loc r with
  | row g' inner e xs =>
   rw [hloc] at h; simp only at h
   cases hE : (g.beq g' && c.elemIs t e) with
   | false => rw [hE] at h; cases h
   | true =>
    rw [hE] at h; simp only [cond_true] at h
    have hE' := hE
    rw [Z4] at hE'
    obtain ⟨hg, hE'⟩ := hE'
    have hg := beq_eq hg
    subst hg
    obtain ⟨l, u, eq, h1, h2, h3⟩ := Q3F (P := P) (K := K) h
    refine ⟨_, fun kk' => by simp only [Q2g, hloc, hE, cond_true, eq]; rfl, fun w R M own mine xv lv hv hl hL hxv hlo hhi => ?_⟩
    obtain ⟨hu, ie, k2, k3, _⟩ := Q2w hty (Q3d hE')
    cases hxv with
    | sl hN hs j1 j2 =>
     have hv' := j1 inner e xs (by rw [hl, hloc])
     have hlr := hL.lr r
     rw [hl, hloc] at hlr
     obtain ⟨a, cap, e1, hc⟩ := Q3E hlr
     rw [e1] at hv'; subst hv'
     refine ⟨_, Q4n hu k2 w a _ cap l u lv hv (h3 w R true cap lv hv hc hlo hhi), .sv hN (by omega) fun i' e' xs' he => ?_⟩
     rw [hl, hloc] at he
     cases he
     refine ⟨by omega, fun hpos => ?_, fun h0 => ?_⟩
     rotate_left
     ·subst h0
      rcases own_nilOr hlr with ha | ⟨gb, cap', ha⟩
      ·rw [ha] at e1; injection e1 with e1 e2 e3; subst e1; subst e3; exact ⟨0, by rw [ha]; simp⟩
      ·rw [ha] at e1; cases e1; exact ⟨xs.length, by rw [ha]; simp [add_lit]⟩
     have hne : ¬ cap = l := by intro hh; subst hh; omega
     rcases own_block hlr with hn | ⟨gb, cap', hh⟩
     ·rw [hn, Z6] at h2; omega
     ·rw [hh] at e1
      injection e1 with ea _ ec
      subst ea
      exact ⟨gb, _, _, hh, by rw [if_neg hne, k3, Z47, add_lit, Z25]⟩
  | frow g' inner e xs =>
   rw [hloc] at h; simp only at h
   cases hE : (g.beq g' && c.elemIs t e) with
   | false => rw [hE] at h; cases h
   | true =>
    rw [hE] at h; simp only [cond_true] at h
    have hE' := hE
    rw [Z4] at hE'
    obtain ⟨hg, hE'⟩ := hE'
    have hg := beq_eq hg
    subst hg
    obtain ⟨l, u, eq, h1, h2, h3⟩ := Q3F (P := P) (K := K) h
    refine ⟨_, fun kk' => by simp only [Q2g, hloc, hE, cond_true, eq]; rfl, fun w R M own mine xv lv hv hl hL hxv hlo hhi => ?_⟩
    cases hxv with
    | sl hN hs j1 j2 =>
     have hv' := j2 inner e xs (by rw [hl, hloc])
     have hlr := hL.lr r
     rw [hl, hloc, LR, ← hv'] at hlr
     exact sh inner e xs l u hE' h1 h2 h3 w R _ lv hv hlr hlo hhi
  | _ => rw [hloc] at h; cases h
 ·rename_i r g off len
  cases hloc : loc r with
  | row g' inner e xs =>
   rw [hloc] at h; simp only at h
   cases hE : (g.beq g' && c.elemIs t e) with
   | false => rw [hE] at h; cases h
   | true =>
    rw [hE] at h; simp only [cond_true] at h
    have hE' := hE
    rw [Z4] at hE'
    obtain ⟨hg, hE'⟩ := hE'
    have hg := beq_eq hg
    subst hg
    obtain ⟨l, u, eq, h1, h2, h3⟩ := Q3F (P := P) (K := K) h
    refine ⟨_, fun kk' => by simp only [Q2g, hloc, hE, cond_true, eq]; rfl, fun w R M own mine xv lv hv hl hL hxv hlo hhi => ?_⟩
    obtain ⟨hu, ie, k2, k3, _⟩ := Q2w hty (Q3d hE')
    cases hxv with
    | sv hN hc j1 =>
     rename_i a cap
     refine ⟨_, Q4n hu k2 w a _ cap l u lv hv (h3 w R true cap lv hv hc hlo hhi), .sv hN (by omega) fun i' e' xs' he => ?_⟩
     rw [hl, hloc] at he
     cases he
     obtain ⟨q1, q2, q3⟩ := j1 inner e xs (by rw [hl, hloc])
     refine ⟨by omega, fun hpos => ?_, fun h0 => ?_⟩
     rotate_left
     ·obtain rfl : off = 0 := by omega
      obtain rfl : l = 0 := by omega
      obtain ⟨n, hn⟩ := q3 rfl
      rcases own_nilOr (by have := hL.lr r; rwa [hl, hloc] at this) with ha | ⟨gb, cap', ha⟩
      ·rw [ha] at hn; cases hn; exact ⟨0, by rw [ha]; simp⟩
      ·rw [ha] at hn; cases hn; exact ⟨xs.length, by rw [ha]; simp [add_lit]⟩
     obtain ⟨gb, n, cap', e1, rfl⟩ := q2 (by omega)
     have hne : ¬ cap = l := by omega
     exact ⟨gb, n, cap', e1, by rw [if_neg hne, k3, Z47, add_lit, ← Z66]⟩
  | _ => rw [hloc] at h; cases h
 ·cases h
end Go.Ev
/- Each operation's step: what makes memory. -/
namespace Go.Ev
variable {Γ : TypeId → Type} {K : Cod Γ} {β : Type}
theorem Q2N {P : Program} {w0 : World} {L0 : Fm} {st : St Γ} {n : Nat} {o : Oper} {act : Act Γ}
  (h : ∀ (R : Rh Γ) (M : Nat → List Nat) (own : Nat → Option Nat) (a : Go.Act) (w : World), SRx K w0 L0 R M own st a w → (∀ r, n ≤ r → r < n + 64 → ¬ R.N r) →
   ∃ (x : Value) (w' : World) (R' : Rh Γ) (M' : Nat → List Nat) (own' : Nat → Option Nat), ((execOp a.eval o).run P w = .ok (.value x) w' ∨ ((execOp a.eval o).run P w = .ok .skip w' ∧ x = undef)) ∧
    Qh R R' ∧ Same R.A w w' ∧ R'.loc = Qp st.loc act.upd ∧ (∀ r, R'.N r → R.N r ∨ (n ≤ r ∧ r < n + 64)) ∧ Locs K w' R' M' own' (mine w0 L0) ∧ Fr w0 L0 w' ∧ VR K w' R' act.val x ∧ R'.A = R.A) :
  Q1V P K w0 L0 st n o act := by
 intro N a w hS hf hd Kn Q hK
 obtain ⟨R, M, own, hN, hx⟩ := hS
 obtain ⟨x, w', R', M', own', hr, hc, hs, hl, hn, hL, hF, hv, hA⟩ := h R M own a w hx (by rw [hN]; exact hf)
 have key : Kn (a.put o.dst x) w' := hK _ _ (SR.mono (N := R'.N) ⟨R', M', own', rfl, hx.upd hc hs act hl hL hF (fun b hb => by rw [hA] at hb; exact .inl hb) o.dst hd hv⟩ fun r h => (hn r h).imp (fun h => by rw [hN] at h; exact h) id)
 unfold Oper.wp
 rcases hr with hr | ⟨hr, rfl⟩
 ·rw [hr, Oper.upon_value]; exact key
 ·rw [hr, Oper.upon_skip]; exact key
theorem Qh.trans {R R' R'' : Rh Γ} (h : Qh R R') (k : Qh R' R'') : Qh R R'' := by
 refine ⟨fun b hb => k.A b (h.A b hb), fun r hr => k.N r (h.N r hr), fun r hr g i e xs hl => ?_, fun r hr g i e xs hl => ?_, fun r hr t cs hl => ?_⟩
 ·obtain ⟨e1, i', xs', h1, h2⟩ := k.row r (h.N r hr) g i e xs hl
  obtain ⟨e2, i2, xs2, h3, h4⟩ := h.row r hr g i' e xs' h1
  exact ⟨e1.trans e2, i2, xs2, h3, h4.trans h2⟩
 ·obtain ⟨e1, h1⟩ := k.frow r (h.N r hr) g i e xs hl
  rcases h1 with ⟨i', e', xs', h1⟩ | ⟨i', e', xs', h1⟩
  ·obtain ⟨e2, i2, xs2, h3, h4⟩ := h.row r hr g i' e' xs' h1
   exact ⟨e1.trans e2, .inl ⟨i2, e', xs2, h3⟩⟩
  ·obtain ⟨e2, h3⟩ := h.frow r hr g i' e' xs' h1
   exact ⟨e1.trans e2, h3⟩
 ·obtain ⟨e1, t', cs', h1⟩ := k.box r (h.N r hr) t cs hl
  obtain ⟨e2, t2, cs2, h3⟩ := h.box r hr t' cs' h1
  exact ⟨e1.trans e2, t2, cs2, h3⟩
theorem Q3v (l : Nat → LV Γ) (us vs : List (Nat × LV Γ)) : Qp l (us ++ vs) = Qp (Qp l vs) us := by
 induction us with
 | nil => rfl
 | cons u us ih => obtain ⟨j, v⟩ := u; rw [List.cons_append, Q1L, ih, ← Q1L]
theorem Q3f {c : Ctx Γ K β} {w : World} {own : Nat → Option Nat} {mine : Nat → Prop} : ∀ (zs : List Zc) (vs : List Value) (m : Nat) (R : Rh Γ) (M : Nat → List Nat), ZcOk zs vs → Locs K w R M own mine →
  (∀ r, m ≤ r → r < m + zs.length → ¬ R.N r) →
  ∃ R' M', R'.loc = Qp R.loc (Q2f c m zs).2 ∧ R'.A = R.A ∧ (∀ r, R'.N r → R.N r ∨ (m ≤ r ∧ r < m + zs.length)) ∧ Qh R R' ∧ Locs K w R' M' own mine ∧ VRL K w R' (Q2f c m zs).1 vs
 | [], _, m, R, M, .nil, hL, _ => ⟨R, M, rfl, rfl, fun r h => .inl h, Qh.refl R, hL, .nil⟩
 | .int k :: zs, _, m, R, M, .int hz, hL, hf => by
  obtain ⟨R', M', e1, e2, e3, hc, hL', hv⟩ := Q3f zs _ m R M hz hL (fun r h1 h2 => hf r h1 (by rw [Z2]; omega))
  exact ⟨R', M', e1, e2, fun r h => (e3 r h).imp id (fun h => ⟨h.1, by rw [Z2]; omega⟩), hc, hL', .cons (.int _ _) rfl hv⟩
 | .bool :: zs, _, m, R, M, .bool hz, hL, hf => by
  obtain ⟨R', M', e1, e2, e3, hc, hL', hv⟩ := Q3f zs _ m R M hz hL (fun r h1 h2 => hf r h1 (by rw [Z2]; omega))
  exact ⟨R', M', e1, e2, fun r h => (e3 r h).imp id (fun h => ⟨h.1, by rw [Z2]; omega⟩), hc, hL', .cons (.bool _) rfl hv⟩
 | .str :: zs, _, m, R, M, .str hz, hL, hf => by
  obtain ⟨R', M', e1, e2, e3, hc, hL', hv⟩ := Q3f zs _ m R M hz hL (fun r h1 h2 => hf r h1 (by rw [Z2]; omega))
  exact ⟨R', M', e1, e2, fun r h => (e3 r h).imp id (fun h => ⟨h.1, by rw [Z2]; omega⟩), hc, hL', .cons (.str _) rfl hv⟩
 | .any :: zs, _, m, R, M, .any h1 hz, hL, hf => by
  obtain ⟨R', M', e1, e2, e3, hc, hL', hv⟩ := Q3f zs _ m R M hz hL (fun r h1 h2 => hf r h1 (by rw [Z2]; omega))
  exact ⟨R', M', e1, e2, fun r h => (e3 r h).imp id (fun h => ⟨h.1, by rw [Z2]; omega⟩), hc, hL', .cons (.undef _) h1 hv⟩
 | .nil e :: zs, _, m, R, M, .sl hz, hL, hf => by
  obtain ⟨R', M', e1, e2, e3, hc, hL', hv⟩ := Q3f zs _ (m + 1) R M hz hL (fun r h1 h2 => hf r (by omega) (by rw [Z2]; omega))
  have hm : ¬ R'.N m := fun h => by
   rcases e3 m h with h | h
   ·exact hf m (Z7 _) (by rw [Z2]; omega) h
   ·omega
  refine ⟨R'.new m (.row 0 (c.inner e) e []) (.slice none 0 0), _, ?_, e2, fun r h => ?_, hc.trans (Qh.new hm _ _), hL'.nilRow hm _ _, .cons ?_ rfl (hv.move (Qh.new hm _ _) (fun _ _ => rfl))⟩
  ·simp only [Q2f]; rw [Q1L, ← e1]; rfl
  ·rcases h with h | h
   ·rcases e3 r h with h | h
    ·exact .inl h
    ·exact .inr ⟨by omega, by rw [Z2]; omega⟩
   ·exact .inr ⟨by omega, by rw [Z2]; omega⟩
  ·exact .sl (.inr rfl) ⟨_, _, _, rfl⟩ (fun i e xs _ => by simp [Rh.new]) (fun i e xs _ => by simp [Rh.new])
theorem Q2C (w : World) (o : Obj) {b : Nat} (h : b < w.heap.size) : (w.alloc o).heap[b]? = w.heap[b]? := Go.RowKit.Below.heap_alloc w o b h
theorem alloc_new (w : World) (o : Obj) : (w.alloc o).heap[w.heap.size]? = some o := by
 show (w.heap.push o)[w.heap.size]? = _; simp
theorem Fr.alloc {w0 w : World} {L0 : Fm} (h : Fr w0 L0 w) (o : Obj) : Fr w0 L0 (w.alloc o) :=
 h.step rfl rfl rfl (Z7 _) (by simp) fun b hb _ => Q2C w o hb
theorem Q3g {w0 w : World} {L0 : Fm} (h : Fr w0 L0 w) : mine w0 L0 w.heap.size := .inl h.size
theorem Locs.sameA {w w' : World} {R : Rh Γ} {M : Nat → List Nat} {own : Nat → Option Nat} {mine : Nat → Prop} (h : Locs K w R M own mine) (hs : ∀ b, b < w.heap.size → w'.heap[b]? = w.heap[b]?) : Same R.A w w' :=
 fun b hb => hs b (h.alt b hb)
theorem Locs.newBlock {w : World} {R : Rh Γ} {M : Nat → List Nat} {own : Nat → Option Nat} {mine : Nat → Prop} (hL : Locs K w R M own mine) {n : Nat} (hn : ¬ R.N n) (o : Obj) (lv : LV Γ) (h : Value) (m : List Nat) (hm : mine w.heap.size)
  (hlr : LR K (w.alloc o) (R.new n lv h) h m lv) (hlt : ∀ b ∈ m, b = w.heap.size) (hnd : m.Nodup) :
  Locs K (w.alloc o) (R.new n lv h) (Go.Ev.upd M n m) (Go.Ev.upd own w.heap.size (some n)) mine := by
 refine hL.put n lv h m (Qh.new hn _ _) (hL.sameA fun b hb => Q2C w o hb) rfl rfl rfl (fun j hj hl b hb => ?_) (by simp) hlr (fun _ b hb => by rw [hlt b hb]; simp) (fun _ => hnd) (fun _ b hb => ?_)
 ·have := (hL.lt j hl b hb).1
  exact ⟨Q2C w o this, by rw [Go.Ev.upd_ne _ _ (by omega)]; exact hL.own j hl b hb⟩
 ·rw [hlt b hb]
  refine ⟨by simp, hm, fun hA => ?_⟩
  have := hL.alt _ hA
  omega
theorem Locs.newBox {w : World} {R : Rh Γ} {M : Nat → List Nat} {own : Nat → Option Nat} {mine : Nat → Prop} (hL : Locs K w R M own mine) {n : Nat} (hn : ¬ R.N n) (hm : mine w.heap.size) (t : TypeId) {xs : List (AV Γ)} {vs : List Value} (hv : VRL K w R xs vs) :
  Locs K (w.alloc (.cells vs.toArray t)) (R.new n (.box t xs) (.pointer (some ⟨w.heap.size, 0, none⟩))) (Go.Ev.upd M n [w.heap.size]) (Go.Ev.upd own w.heap.size (some n)) mine :=
 hL.newBlock hn _ _ _ _ hm ⟨w.heap.size, vs.toArray, rfl, rfl, alloc_new w _, hv.move (Qh.new hn _ _) (hL.sameA fun b hb => Q2C w _ hb)⟩ (fun b hb => by simpa using hb) (by simp)
theorem ptr_new (w : World) (R : Rh Γ) (n : Nat) (t : TypeId) (xs : List (AV Γ)) (g off : Nat) : VR K w (R.new n (.box t xs) (.pointer (some ⟨g, 0, none⟩))) (.ptr n off) (.pointer (some ⟨g, off, none⟩)) :=
 .ptr (.inr rfl) fun t' cs' _ => by simp [Rh.new]
theorem run_newVar {P : Program} (t : TypeId) (v : Value) (w : World) : (newVar t v).run P w = .ok ⟨w.heap.size, 0, none⟩ (w.alloc (.cells v.cells t)) := rfl
theorem alloc_sound {P : Program} {c : Ctx Γ K β} (hty : TyOk P K c.X c.ty) {w0 : World} {L0 : Fm} {st : St Γ} {n : Nat} {o : Oper} {t : TypeId} (ho : o.op = .alloc t) {i : TyI} (hi : c.ty t = some i) (hlen : i.zero.length < 63) :
  Q1V P K w0 L0 st n o ⟨.ptr n 0, (n, .box t (Q2f c (n + 1) i.zero).1) :: (Q2f c (n + 1) i.zero).2⟩ := by
 refine Q2N fun R M own a w hx hf => ?_
 obtain ⟨inf, h1, _, _, z, hz, hzc⟩ := (hty _ _ hi).info
 obtain ⟨R1, M1, e1, e2, e3, hc1, hL1, hv1⟩ := Q3f (c := c) i.zero z.cells.toList (n + 1) R M hzc hx.locs (fun r h1 h2 => hf r (by omega) (by omega))
 have hn : ¬ R1.N n := fun h => by
  rcases e3 n h with h | h
  ·exact hf n (Z7 _) (by omega) h
  ·omega
 refine ⟨.pointer (some ⟨w.heap.size, 0, none⟩), w.alloc (.cells z.cells t), R1.new n (.box t (Q2f c (n + 1) i.zero).1) (.pointer (some ⟨w.heap.size, 0, none⟩)), Go.Ev.upd M1 n [w.heap.size], Go.Ev.upd own w.heap.size (some n), .inl ?_, hc1.trans (Qh.new hn _ _), hx.locs.sameA fun b hb => Q2C w _ hb, ?_, fun r h => ?_, ?_, hx.fr.alloc _, ptr_new _ R1 n t _ _ 0, e2⟩
 ·unfold execOp
  simp only [ho]
  refine Q1P ?_
  simp only [Instr.alloc, zeroValue, typeInfo, Z17, run_program, Z24, h1, hz, Z46, run_newVar]
 ·rw [Q1L, ← hx.hl, ← e1]; rfl
 ·rcases h with h | h
  ·rcases e3 r h with h | h
   ·exact .inl h
   ·exact .inr (by omega)
  ·exact .inr (by omega)
 ·have := hL1.newBox hn (Q3g hx.fr) t hv1
  simpa using this
theorem Q33 {w : World} {R : Rh Γ} {x : AV Γ} {v : Value} (h : VR K w R x v) (hk : x.cellsOk = true) : VRL K w R x.cellsOf v.cells.toList := by
 cases h with
 | agg h => simpa [AV.cellsOf, Value.cells] using h
 | tup h => cases hk
 | lit => cases hk
 | undef v => cases hk
 | vs h => obtain ⟨⟩ := h; exact .cons (.vs (.sl ‹_› ‹_› ‹_› ‹_›)) rfl .nil
 | vp h => obtain ⟨⟩ := h; exact .cons (.vp (.ptr ‹_› ‹_›)) rfl .nil
 | sl hN hs h1 h2 => obtain ⟨a, n, c, rfl⟩ := hs; exact .cons (.sl hN ⟨a, n, c, rfl⟩ h1 h2) rfl .nil
 | int k n => exact .cons (.int _ _) rfl .nil
 | bool b => exact .cons (.bool _) rfl .nil
 | str s => exact .cons (.str _) rfl .nil
 | nil => exact .cons .nil rfl .nil
 | pnil => exact .cons .pnil rfl .nil
 | unk b => exact .cons (.unk b) rfl .nil
 | sv hN hc h1 => exact .cons (.sv hN hc h1) rfl .nil
 | ptr hN h1 => exact .cons (.ptr hN h1) rfl .nil
 | er hN h1 => exact .cons (.er hN h1) rfl .nil
 | fn h => exact .cons (.fn h) rfl .nil
theorem box_sound {P : Program} {c : Ctx Γ K β} {w0 : World} {L0 : Fm} {st : St Γ} {n : Nat} {o : Oper} {t : TypeId} {x : Operand} (ho : o.op = .box t x) {kk : Act Γ → Option β} {b : β}
  (h : Q1W c (n + 1) t (st.ev x) (fun a => bif a.val.cellsOk && a.val.cellsOf.length.beq (c.size t) then kk ⟨.ptr n 0, (n, .box t a.val.cellsOf) :: a.upd⟩ else none) = some b) :
  Q2h P K w0 L0 st n o (fun kk => Q1W c (n + 1) t (st.ev x) (fun a => bif a.val.cellsOk && a.val.cellsOf.length.beq (c.size t) then kk ⟨.ptr n 0, (n, .box t a.val.cellsOf) :: a.upd⟩ else none)) := by
 obtain ⟨act, h1, _, _, h2⟩ := Q3c h
 rw [h1] at h
 cases hC : (act.val.cellsOk && act.val.cellsOf.length.beq (c.size t)) with
 | false => rw [hC] at h; cases h
 | true =>
  refine ⟨⟨.ptr n 0, (n, .box t act.val.cellsOf) :: act.upd⟩, fun kk' => (h1 _).trans (by rw [hC]; rfl), Q2N fun R M own a w hx hf => ?_⟩
  obtain ⟨R1, M1, e1, e2, e3, hc1, hL1, hv1⟩ := h2 w R M own (mine w0 L0) _ hx.locs (hx.ev x) (hf _ (by omega) (by omega))
  rw [Z4] at hC
  have hn : ¬ R1.N n := fun h => by
   rcases e3 n h with h | h
   ·exact hf n (Z7 _) (by omega) h
   ·omega
  refine ⟨.pointer (some ⟨w.heap.size, 0, none⟩), w.alloc (.cells (a.eval x).cells t), R1.new n (.box t act.val.cellsOf) (.pointer (some ⟨w.heap.size, 0, none⟩)), Go.Ev.upd M1 n [w.heap.size], Go.Ev.upd own w.heap.size (some n), .inl ?_,
   hc1.trans (Qh.new hn _ _), hx.locs.sameA fun b hb => Q2C w _ hb, ?_, fun r h => ?_, ?_, hx.fr.alloc _, ptr_new _ R1 n t _ _ 0, e2⟩
  ·unfold execOp
   simp only [ho]
   exact Q1P (by simp only [Instr.box, Z17, run_newVar, Z24, Z46])
  ·rw [Q1L, ← hx.hl, ← e1]; rfl
  ·rcases h with h | h
   ·rcases e3 r h with h | h
    ·exact .inl h
    ·exact .inr (by omega)
   ·exact .inr (by omega)
  ·have := hL1.newBox hn (Q3g hx.fr) t (Q33 hv1 hC.1)
   simpa using this
theorem Q3Y {α : Type} (off : Nat) (new old : List α) (h : off + new.length ≤ old.length) (j : Nat) :
  (splice off new old)[j]? = if off ≤ j ∧ j < off + new.length then new[j - off]? else old[j]? := by
 unfold splice
 have hl : (old.take off).length = off := by rw [Z8]; omega
 by_cases h1 : j < off
 ·rw [Z28, Z94 (by omega), Z55, if_pos h1, if_neg (by omega)]
 ·by_cases h2 : j < off + new.length
  ·rw [Z28, Z76 (by omega), hl, Z94 (by omega), if_pos ⟨by omega, h2⟩]
  ·rw [Z76 (by rw [Z10]; omega), Z10, hl, Z61, if_neg (by omega)]
   congr 1; omega
theorem fold_splice (vs : List Value) : ∀ (off : Nat) (cells : Array Value) (k : Nat), off + k + vs.length ≤ cells.size →
  ((vs.zipIdx k).foldl (fun cs (p : Value × Nat) => cs.setIfInBounds (off + p.2) p.1) cells).toList = splice (off + k) vs cells.toList := by
 induction vs with
 | nil => intro off cells k h; simp [splice]
 | cons v vs ih =>
  intro off cells k h
  rw [List.zipIdx_cons, List.foldl_cons, ih off _ (k + 1) (by simp at h ⊢; omega)]
  simp only [Z2] at h
  apply Z95
  intro j
  have hl : cells.toList.length = cells.size := by simp
  rw [Q3Y _ _ _ (by simp; omega), Q3Y _ _ _ (by simp; omega), Array.toList_setIfInBounds, List.getElem?_set]
  simp only [Z2, hl]
  by_cases h1 : off + k = j
  ·subst h1
   rw [if_neg (by omega), if_pos rfl, if_pos (by omega), if_pos ⟨by omega, by omega⟩]; simp
  ·by_cases h2 : off + (k + 1) ≤ j ∧ j < off + (k + 1) + vs.length
   ·rw [if_pos h2, if_pos ⟨by omega, by omega⟩]
    have : j - (off + k) = (j - (off + (k + 1))) + 1 := by omega
    rw [this]; simp
   ·rw [if_neg h2, if_neg h1, if_neg (by omega)]
theorem fill_cons {place : Nat → Option (Nat × Nat)} {cells : Array Value} {i off sz : Nat} {v : Value} {rest : List (Nat × Value)} (hp : place i = some (off, sz)) (hs : v.cells.size = sz) (hl : off + sz ≤ cells.size) :
  ∃ cells' : Array Value, cells'.toList = splice off v.cells.toList cells.toList ∧ Instr.fill place cells ((i, v) :: rest) = Instr.fill place cells' rest := by
 refine ⟨v.cells.zipIdx.foldl (fun cs (c, j) => cs.setIfInBounds (off + j) c) cells, ?_, ?_⟩
 ·have := fold_splice v.cells.toList off cells 0 (by simp; omega)
  rw [Z31] at this
  rw [← this]
  rw [← Array.foldl_toList, Array.toList_zipIdx]
 ·simp only [Instr.fill, hp]
  rw [if_neg (by simp; omega)]
inductive PartsR (K : Cod Γ) (w : World) (R : Rh Γ) (a : Go.Act) : List (Nat × Operand) → List (Nat × List (AV Γ)) → Prop
 | nil : PartsR K w R a [] []
 | cons {i x us ps qs} (h : VRL K w R us (a.eval x).cells.toList) (k : PartsR K w R a ps qs) : PartsR K w R a ((i, x) :: ps) ((i, us) :: qs)
theorem partsOf_sound {w : World} {R : Rh Γ} {st : St Γ} {a : Go.Act} (hev : ∀ x, VR K w R (st.ev x) (a.eval x)) : ∀ (ps : List (Nat × Operand)) (qs : List (Nat × List (AV Γ))), partsOf st ps = some qs →
  PartsR K w R a ps qs
 | [], qs, h => by simp [partsOf] at h; subst h; exact .nil
 | (i, x) :: r, qs, h => by
  simp only [partsOf] at h
  cases hk : (st.ev x).cellsOk with
  | false => rw [hk] at h; cases h
  | true =>
   rw [hk] at h
   simp only [cond_true] at h
   cases hr : partsOf st r with
   | none => rw [hr] at h; cases h
   | some vs =>
    rw [hr] at h
    cases h
    exact .cons (Q33 (hev x) hk) (partsOf_sound hev r vs hr)
theorem fillAgg_sound {w : World} {R : Rh Γ} {fs : List (Nat × Nat × Bool)} {a : Go.Act} : ∀ (ps : List (Nat × Operand)) (qs : List (Nat × List (AV Γ))) (xs ys : List (AV Γ)) (cells : Array Value),
  PartsR K w R a ps qs → VRL K w R xs cells.toList → Q3a fs qs xs = some ys →
  ∃ cells' : Array Value, Instr.fill ((fs.map fun p => (p.1, p.2.1)).toArray[·]?) cells (ps.map fun p => (p.1, a.eval p.2)) = some cells' ∧ VRL K w R ys cells'.toList
 | [], _, xs, ys, cells, .nil, hv, h => by simp [Q3a] at h; subst h; exact ⟨cells, rfl, hv⟩
 | (i, x) :: ps, (_, us) :: qs, xs, ys, cells, .cons hu hr, hv, h => by
  simp only [Q3a] at h
  cases hf : fs[i]? with
  | none => rw [hf] at h; cases h
  | some f =>
   obtain ⟨off, sz, ag⟩ := f
   rw [hf] at h
   simp only at h
   cases hC : (us.length.beq sz && (off + sz).ble xs.length) with
   | false => rw [hC] at h; cases h
   | true =>
    rw [hC] at h
    simp only [cond_true] at h
    rw [Z4] at hC
    have h1 := beq_eq hC.1
    have h2 := Q2i hC.2
    have hs : (a.eval x).cells.size = sz := by rw [← Z36, ← hu.length]; exact h1
    have hl : off + sz ≤ cells.size := by rw [← Z36, ← hv.length]; exact h2
    obtain ⟨cells1, e1, e2⟩ := fill_cons (place := ((fs.map fun p => (p.1, p.2.1)).toArray[·]?)) (rest := ps.map fun p => (p.1, a.eval p.2)) (i := i) (off := off) (sz := sz) (v := a.eval x) (cells := cells) (by simp [hf]) hs hl
    obtain ⟨cells', e3, e4⟩ := fillAgg_sound ps qs _ ys cells1 hr (by rw [e1]; exact hv.splice off hu) h
    exact ⟨cells', by rw [Z16, e2]; exact e3, e4⟩
theorem build_sound {P : Program} {c : Ctx Γ K β} (hty : TyOk P K c.X c.ty) {w0 : World} {L0 : Fm} {st : St Γ} {n : Nat} {o : Oper} {t : TypeId} {parts : Array (Nat × Operand)} (ho : o.op = .build t parts) {fs : List (Nat × Nat × Bool)} {s by_ : Nat} {zero : List Zc}
  (hi : c.ty t = some ⟨.agg fs, s, by_, zero⟩) (hlen : zero.length ≤ 60) {qs : List (Nat × List (AV Γ))} (hp : partsOf st parts.toList = some qs) {cs : List (AV Γ)} (hf : Q3a fs qs (Q2f c n zero).1 = some cs) :
  Q1V P K w0 L0 st n o ⟨.agg cs, (Q2f c n zero).2⟩ := by
 refine Q2N fun R M own a w hx hfr => ?_
 have ht := hty _ _ hi
 obtain ⟨inf, h1, _, _, z, hz, hzc⟩ := ht.info
 obtain ⟨fields, hu, hpl, _⟩ := ht.kind
 obtain ⟨R1, M1, e1, e2, e3, hc1, hL1, hv1⟩ := Q3f (c := c) zero z.cells.toList n R M hzc hx.locs (fun r h1 h2 => hfr r (by omega) (by omega))
 have hev : ∀ x, VR K w R1 (st.ev x) (a.eval x) := fun x => (hx.ev x).move hc1 (fun _ _ => rfl)
 obtain ⟨cells', e4, e5⟩ := fillAgg_sound (fs := fs) parts.toList qs _ cs z.cells (partsOf_sound hev _ _ hp) hv1 hf
 refine ⟨.agg cells', w, R1, M1, own, .inl ?_, hc1, fun _ _ => rfl, by rw [e1, hx.hl], fun r h => (e3 r h).imp id (fun h => by omega), hL1, hx.fr, ?_, e2⟩
 ·unfold execOp
  simp only [ho]
  refine Q1P (run_build w t _ cells' ?_)
  unfold Program.built
  rw [h1, hu]
  simp only [hz, hpl, Array.toList_map]
  exact e4
 ·have := VR.agg (K := K) (w := w) (R := R1) e5
  simpa using this
end Go.Ev
/- Each operation's step: rows of one's own. -/
namespace Go.Ev
variable {Γ : TypeId → Type} {K : Cod Γ} {β : Type}
def killAll (R : Rh Γ) (ms : List Nat) : Rh Γ := { R with loc := Qp R.loc (kill ms) }
theorem Q3G (R : Rh Γ) (ms : List Nat) (j : Nat) : (killAll R ms).loc j = if j ∈ ms then .dead else R.loc j := by
 unfold killAll
 induction ms with
 | nil => simp [kill, Qp]
 | cons q ms ih =>
  simp only [kill, Z16] at ih ⊢
  rw [Q1L]
  unfold Go.Ev.upd
  by_cases h : j = q
  ·simp [h]
  ·rw [if_neg h]; rw [ih]; simp [h]
theorem Qh.killAll (R : Rh Γ) (ms : List Nat) : Qh R (killAll R ms) := by
 refine ⟨fun _ h => h, fun _ h => h, fun r _ g i e xs h => ?_, fun r _ g i e xs h => ?_, fun r _ t cs h => ?_⟩ <;> rw [Q3G] at h <;> split at h <;> first | cases h | skip
 ·exact ⟨rfl, i, xs, h, rfl⟩
 ·exact ⟨rfl, .inr ⟨i, e, xs, h⟩⟩
 ·exact ⟨rfl, t, cs, h⟩
theorem Q3Z {R : Rh Γ} {ms : List Nat} {j : Nat} (h : ((killAll R ms).loc j).live) : j ∉ ms ∧ (R.loc j).live := by
 rw [Q3G] at h
 split at h
 ·exact h.elim
 ·exact ⟨‹_›, h⟩
theorem Locs.killAll {w : World} {R : Rh Γ} {M : Nat → List Nat} {own : Nat → Option Nat} {mine : Nat → Prop} (hL : Locs K w R M own mine) (ms : List Nat) : Locs K w (killAll R ms) M own mine := by
 refine ⟨fun i => ?_, fun i hi => hL.own i (Q3Z hi).2, fun i hi => hL.nodup i (Q3Z hi).2, fun i hi => hL.lt i (Q3Z hi).2, hL.alt⟩
 rw [Q3G]
 split
 ·trivial
 ·exact (hL.lr i).move (Qh.killAll R ms) (fun _ _ => rfl) (fun _ _ _ => rfl)
theorem Locs.gather {w w' : World} {R R' : Rh Γ} {M : Nat → List Nat} {own : Nat → Option Nat} {mine : Nat → Prop} (hL : Locs K w R M own mine) (ms : List Nat) (i : Nat) (lv : LV Γ) (h : Value) (m : List Nat)
  (hc : Qh (Go.Ev.killAll R ms) R') (hs : Same R.A w w') (eloc : R'.loc = Go.Ev.upd (Go.Ev.killAll R ms).loc i lv) (ehdr : R'.hdr = Go.Ev.upd R.hdr i h) (eA : R'.A = R.A)
  (hsize : w.heap.size ≤ w'.heap.size) (hb : ∀ b, b < w.heap.size → own b ≠ some i → (∀ q ∈ ms, own b ≠ some q) → w'.heap[b]? = w.heap[b]?)
  (hlr : LR K w' R' h m lv) (hm : ∀ b ∈ m, w.heap.size ≤ b ∨ own b = some i ∨ ∃ q ∈ ms, own b = some q) (hnd : m.Nodup) (hlt : ∀ b ∈ m, b < w'.heap.size ∧ mine b ∧ ¬ R.A b) :
  Locs K w' R' (Go.Ev.upd M i m) (fun b => if b ∈ m then some i else own b) mine := by
 refine (hL.killAll ms).put i lv h m hc hs eloc ehdr eA (fun j hj hl b hbj => ?_) hsize hlr (fun _ b hb' => by simp [hb']) (fun _ => hnd) (fun _ => hlt)
 obtain ⟨hjm, hjl⟩ := Q3Z hl
 have ho := hL.own j hjl b hbj
 have hlt' := (hL.lt j hjl b hbj).1
 have hni : own b ≠ some i := by rw [ho]; exact fun e => hj (Option.some.inj e)
 refine ⟨hb b hlt' hni (fun q hq e => hjm (by rw [ho] at e; exact Option.some.inj e ▸ hq)), ?_⟩
 rw [if_neg, ho]
 intro hbm
 rcases hm b hbm with h1 | h1 | ⟨q, hq, h1⟩
 ·omega
 ·exact hni h1
 ·rw [ho] at h1
  exact hjm (Option.some.inj h1 ▸ hq)
theorem Q34 {w : World} {R : Rh Γ} {M : Nat → List Nat} {own : Nat → Option Nat} {mine : Nat → Prop} (hL : Locs K w R M own mine) {loc : Nat → LV Γ} (hl : R.loc = loc) {inner : Bool} :
  ∀ {xs : List (AV Γ)} {vs : List Value} {ts : List (T Γ)} {m : List Nat}, VRL K w R xs vs → toT loc inner xs = some (ts, m) → OwnL K w R.A ts vs (m.flatMap M) ∧ m.Nodup ∧ ∀ q ∈ m, (R.loc q).live
 | [], _, ts, m, .nil, h => by simp [toT] at h; obtain ⟨rfl, rfl⟩ := h; exact ⟨.nil, Z71, by simp⟩
 | x :: xs, _, ts, m, .cons hx h1 hxs, h => by
  cases x with
  | int k n =>
   simp only [toT] at h
   split at h
   ·rename_i ts' m' he; cases h; cases hx
    obtain ⟨a, b, c⟩ := Q34 hL hl hxs he
    exact ⟨OwnL.cons (L := []) (.int _ _) a, b, c⟩
   ·cases h
  | bool k =>
   simp only [toT] at h
   split at h
   ·rename_i ts' m' he; cases h; cases hx
    obtain ⟨a, b, c⟩ := Q34 hL hl hxs he
    exact ⟨OwnL.cons (L := []) (.bool _) a, b, c⟩
   ·cases h
  | str s =>
   simp only [toT] at h
   split at h
   ·rename_i ts' m' he; cases h; cases hx
    obtain ⟨a, b, c⟩ := Q34 hL hl hxs he
    exact ⟨OwnL.cons (L := []) (.str _) a, b, c⟩
   ·cases h
  | vs i e ys =>
   simp only [toT] at h
   cases inner with
   | true => cases h
   | false =>
    simp only [cond_false] at h
    split at h
    ·rename_i ts' m' he; cases h
     obtain ⟨a, b, c⟩ := Q34 hL hl hxs he
     cases hx with
     | vs hro => exact ⟨OwnL.cons (L := []) (.ro hro) a, b, c⟩
    ·cases h
  | sl q g =>
   simp only [toT] at h
   split at h
   ·rename_i g' i e ys ts' m' hq he
    cases hC : (g.beq g' && !(m'.contains q)) with
    | false => rw [hC] at h; cases h
    | true =>
     rw [hC] at h; cases h
     rw [Z4] at hC
     have hg := beq_eq hC.1
     subst hg
     have hq' : q ∉ m' := by simpa using hC.2
     obtain ⟨a, b, c⟩ := Q34 hL hl hxs he
     have hlr := hL.lr q
     rw [hl, hq] at hlr
     cases hx with
     | sl hN hs j1 j2 =>
      have := j1 i e ys (by rw [hl, hq])
      subst this
      refine ⟨?_, Z78.2 ⟨hq', b⟩, fun r hr => ?_⟩
      ·rw [Z104]; exact .cons hlr a
      ·rcases Z13.1 hr with rfl | hr
       ·rw [hl, hq]; trivial
       ·exact c r hr
   ·cases h
  | _ => cases h
termination_by xs => xs.length
inductive VRS (K : Cod Γ) (w : World) (R : Rh Γ) : List (List (AV Γ)) → List (List Value) → Prop
 | nil : VRS K w R [] []
 | cons {x v xs vs} (h : VRL K w R x v) (hs : VRS K w R xs vs) : VRS K w R (x :: xs) (v :: vs)
theorem toTs_sound {w : World} {R : Rh Γ} {M : Nat → List Nat} {own : Nat → Option Nat} {mine : Nat → Prop} (hL : Locs K w R M own mine) {loc : Nat → LV Γ} (hl : R.loc = loc) {inner : Bool} :
  ∀ {xss : List (List (AV Γ))} {vss : List (List Value)} {tss : List (List (T Γ))} {m : List Nat}, VRS K w R xss vss → toTs loc inner xss = some (tss, m) →
   OwnL K w R.A tss.flatten vss.flatten (m.flatMap M) ∧ m.Nodup ∧ ∀ q ∈ m, (R.loc q).live
 | [], _, tss, m, .nil, h => by simp [toTs] at h; obtain ⟨rfl, rfl⟩ := h; exact ⟨.nil, Z71, by simp⟩
 | cs :: xss, _, tss, m, .cons hc hr, h => by
  simp only [toTs] at h
  split at h
  ·rename_i ts m1 tss' m2 h1 h2
   cases hC : (m1.all fun q => !(m2.contains q)) with
   | false => rw [hC] at h; cases h
   | true =>
    rw [hC] at h; cases h
    obtain ⟨a1, b1, c1⟩ := Q34 hL hl hc h1
    obtain ⟨a2, b2, c2⟩ := toTs_sound hL hl hr h2
    refine ⟨?_, Z33.2 ⟨b1, b2, fun a ha b hb e => ?_⟩, fun q hq => (Z26.1 hq).elim (c1 q) (c2 q)⟩
    ·rw [Z44, Z44, Z105]; exact a1.append a2
    ·subst e
     have := Z49.1 hC a ha
     simp at this
     exact this hb
  ·cases h
theorem Locs.flat {w : World} {R : Rh Γ} {M : Nat → List Nat} {own : Nat → Option Nat} {mine : Nat → Prop} (hL : Locs K w R M own mine) : ∀ (m : List Nat), m.Nodup → (∀ q ∈ m, (R.loc q).live) →
  (m.flatMap M).Nodup ∧ ∀ b ∈ m.flatMap M, (∃ q ∈ m, own b = some q) ∧ b < w.heap.size ∧ mine b ∧ ¬ R.A b
 | [], _, _ => by simp
 | q :: m, hn, hl => by
  obtain ⟨h1, h2⟩ := hL.flat m (Z78.1 hn).2 (fun x hx => hl x (by simp [hx]))
  have hq := hl q (by simp)
  refine ⟨?_, fun b hb => ?_⟩
  ·rw [Z104, Z33]
   refine ⟨hL.nodup q hq, h1, fun a ha b hb e => ?_⟩
   subst e
   obtain ⟨⟨q', hq', ho⟩, _⟩ := h2 a hb
   rw [hL.own q hq a ha] at ho
   cases ho
   exact (Z78.1 hn).1 hq'
  ·rw [Z104, Z26] at hb
   rcases hb with hb | hb
   ·exact ⟨⟨q, by simp, hL.own q hq b hb⟩, hL.lt q hq b hb⟩
   ·obtain ⟨⟨q', hq', ho⟩, r⟩ := h2 b hb
    exact ⟨⟨q', by simp [hq'], ho⟩, r⟩
theorem decs_sound {e : TypeId} {inner : Bool} : ∀ {tss : List (List (T Γ))} {kk : List (Γ e) → Option β} {b : β}, decs K e inner tss kk = some b →
  ∃ xs : List (Γ e), (∀ kk' : List (Γ e) → Option β, decs K e inner tss kk' = kk' xs) ∧ xs.map (K.enc e inner) = tss
 | [], kk, b, h => ⟨[], fun _ => rfl, rfl⟩
 | cs :: tss, kk, b, h => by
  simp only [decs] at h
  cases hd : K.dec e inner cs with
  | none => rw [hd] at h; cases h
  | some x =>
   rw [hd] at h
   simp only at h
   obtain ⟨xs, h1, h2⟩ := decs_sound h
   exact ⟨x :: xs, fun kk' => by simp only [decs, hd]; exact h1 _, by rw [Z16, h2, K.ok e inner cs x hd]⟩
theorem fill_row {size : Nat} : ∀ (vs : List Value) (k : Nat) (pre rest : List Value) (cells : Array Value), (∀ v ∈ vs, v.cells.size = size) → pre.length = k * size → cells.toList = pre ++ rest → rest.length = vs.length * size →
  ∃ cells' : Array Value, Instr.fill (fun i => some (i * size, size)) cells ((vs.zipIdx k).map fun p => (p.2, p.1)) = some cells' ∧ cells'.toList = pre ++ (vs.map fun v => v.cells.toList).flatten
 | [], k, pre, rest, cells, _, _, hc, hr => ⟨cells, rfl, by rw [hc, (Z69 (by simpa using hr) : rest = [])]; simp⟩
 | v :: vs, k, pre, rest, cells, hv, hp, hc, hr => by
  have hs : v.cells.toList.length = size := by rw [Z36]; exact hv v (by simp)
  have hlen : cells.size = pre.length + rest.length := by rw [← Z36, hc, Z10]
  rw [Z2, Z70] at hr
  obtain ⟨c1, e1, e2⟩ := fill_cons (place := fun i => some (i * size, size)) (rest := (vs.zipIdx (k + 1)).map fun p => (p.2, p.1)) (i := k) (off := k * size) (sz := size) (v := v) (cells := cells) rfl (hv v (by simp)) (by omega)
  have e3 : c1.toList = (pre ++ v.cells.toList) ++ rest.drop size := by
   rw [e1, hc]; unfold splice
   rw [← hp, List.take_left, hs, Z28, Z28, ← Z96, List.drop_left]
  obtain ⟨c2, e4, e5⟩ := fill_row vs (k + 1) (pre ++ v.cells.toList) (rest.drop size) c1 (fun u hu => hv u (by simp [hu])) (by rw [Z10, hs, hp, Z70]) e3 (by rw [Z19]; omega)
  refine ⟨c2, ?_, by rw [e5]; simp⟩
  rw [List.zipIdx_cons, Z16]
  exact e2.trans e4
end Go.Ev
/- Each operation's step: literals of slices, stores, make. -/
namespace Go.Ev
variable {Γ : TypeId → Type} {K : Cod Γ} {β : Type}
theorem updLoc_kill (R : Rh Γ) (ms : List Nat) : Qp R.loc (kill ms) = (killAll R ms).loc := rfl
theorem Locs.newRow {w w' : World} {R : Rh Γ} {M : Nat → List Nat} {own : Nat → Option Nat} {mine : Nat → Prop} (hL : Locs K w R M own mine) {n : Nat} (hn : ¬ R.N n) (ms : List Nat) {inner : Bool} {e : TypeId} {xs : List (Γ e)} {v : Value} {L : List Nat}
  (hO : Own K w' R.A (.sl true inner e xs) v L) (hs : Same R.A w w') (hsize : w.heap.size ≤ w'.heap.size) (hb : ∀ b, b < w.heap.size → (∀ q ∈ ms, own b ≠ some q) → w'.heap[b]? = w.heap[b]?)
  (hL' : ∀ b ∈ L, w.heap.size ≤ b ∨ ∃ q ∈ ms, own b = some q) (hnd : L.Nodup) (hlt : ∀ b ∈ L, b < w'.heap.size ∧ mine b ∧ ¬ R.A b) :
  Locs K w' ((Go.Ev.killAll R ms).new n (.row 0 inner e xs) v) (Go.Ev.upd M n L) (fun b => if b ∈ L then some n else own b) mine :=
 hL.gather ms n (.row 0 inner e xs) v L (Qh.new (R := Go.Ev.killAll R ms) hn _ _) hs rfl rfl rfl hsize (fun b h1 _ h2 => hb b h1 h2) hO (fun b h => (hL' b h).elim .inl (fun h => .inr (.inr h))) hnd hlt
theorem row_new (w : World) (R : Rh Γ) (n : Nat) (inner : Bool) (e : TypeId) (xs : List (Γ e)) {v : Value} (hv : isSlice v) : VR K w (R.new n (.row 0 inner e xs) v) (.sl n 0) v :=
 .sl (.inr rfl) hv (fun i e xs _ => by simp [Rh.new]) (fun i e xs _ => by simp [Rh.new])
theorem own_isSlice {w : World} {A : Nat → Prop} {inner : Bool} {e : TypeId} {xs : List (Γ e)} {h : Value} {M : List Nat} (hO : Own K w A (.sl true inner e xs) h M) : isSlice h := by
 obtain ⟨a, cap, rfl, _⟩ := Q3E hO
 exact ⟨_, _, _, rfl⟩
theorem els_vrs {w : World} {R : Rh Γ} {st : St Γ} {a : Go.Act} (hev : ∀ x, VR K w R (st.ev x) (a.eval x)) {loc : Nat → LV Γ} {inner : Bool} : ∀ (ps : List (Nat × Operand)) {tss : List (List (T Γ))} {m : List Nat},
  toTs loc inner (ps.map fun p => (st.ev p.2).cellsOf) = some (tss, m) → VRS K w R (ps.map fun p => (st.ev p.2).cellsOf) (ps.map fun p => (a.eval p.2).cells.toList)
 | [], _, _, _ => .nil
 | p :: ps, tss, m, h => by
  rw [Z16] at h ⊢
  simp only [toTs] at h
  split at h
  ·rename_i ts m1 tss' m2 h1 h2
   refine .cons (Q33 (hev p.2) ?_) (els_vrs hev ps h2)
   cases hx : st.ev p.2 <;> first | rfl | (rw [hx] at h1; simp [AV.cellsOf, toT] at h1)
  ·cases h
theorem zip_range {α : Type} (ps : List (Nat × α)) (k : Nat) (h : ps.map (·.1) = (List.range ps.length).map (· + k)) : ps = ((ps.map (·.2)).zipIdx k).map fun p => (p.2, p.1) := by
 apply Z95
 intro i
 have hi := congrArg (·[i]?) h
 simp only [Z11, List.getElem?_zipIdx] at hi ⊢
 cases hp : ps[i]? with
 | none => simp
 | some p =>
  have hlt : i < ps.length := by
   rcases Z34 i ps.length with h' | h'
   ·exact h'
   ·simp [Z21 h'] at hp
  rw [hp, List.getElem?_range hlt] at hi
  simp at hi
  simp
  rw [← Nat.add_comm, ← hi]
theorem buildSlice_sound {P : Program} {c : Ctx Γ K β} (hty : TyOk P K c.X c.ty) {w0 : World} {L0 : Fm} {st : St Γ} {n : Nat} {o : Oper} {t e : TypeId} {len : Nat} {parts : Array (Nat × Operand)} (ho : o.op = .buildSlice t len parts)
  (hE : c.elem t = some e) (hlen : parts.toList.length = len) (hidx : parts.toList.map (·.1) = List.range len) (hsz : len * K.sz e ≤ 10000) {inner : Bool} {tss : List (List (T Γ))} {m : List Nat}
  (ht : toTs st.loc inner (parts.toList.map fun p => (st.ev p.2).cellsOf) = some (tss, m)) {xs : List (Γ e)} (hxs : xs.map (K.enc e inner) = tss) :
  Q1V P K w0 L0 st n o ⟨.sl n 0, (n, .row 0 inner e xs) :: kill m⟩ := by
 refine Q2N fun R M own a w hx hf => ?_
 obtain ⟨hu, ie, hi, hisz, z, hz, hzs, _⟩ := Q2w hty hE
 have hvs := els_vrs (K := K) (fun x => hx.ev x) parts.toList ht
 obtain ⟨hO, hnd, hlive⟩ := toTs_sound hx.locs hx.hl hvs ht
 obtain ⟨hfn, hfl⟩ := hx.locs.flat m hnd hlive
 have hcells : cells K inner e xs = tss.flatten := by rw [cells, hxs]
 rw [← hcells] at hO
 -- the machine's cells
 let vs := parts.toList.map fun p => a.eval p.2
 have hsize : ∀ v ∈ vs, v.cells.size = K.sz e := by
  intro v hv
  obtain ⟨p, hp, rfl⟩ := Z18.1 hv
  have key : ∀ (ps : List (Nat × Operand)) (tss : List (List (T Γ))) (xs : List (Γ e)) (m : List Nat), toTs st.loc inner (ps.map fun p => (st.ev p.2).cellsOf) = some (tss, m) → xs.map (K.enc e inner) = tss → VRS K w R (ps.map fun p => (st.ev p.2).cellsOf) (ps.map fun p => (a.eval p.2).cells.toList) → p ∈ ps → (a.eval p.2).cells.size = K.sz e := by
   intro ps
   induction ps with
   | nil => intro _ _ _ _ _ _ h; cases h
   | cons q qs ih =>
    intro tss xs m h hx' hv hp
    rw [Z16] at h
    rw [Z16, Z16] at hv
    simp only [toTs] at h
    split at h
    ·rename_i ts m1 tss' m2 h1 h2
     cases hC : (m1.all fun q => !(m2.contains q)) with
     | false => rw [hC] at h; cases h
     | true =>
      rw [hC] at h
      cases h
      cases xs with
      | nil => cases hx'
      | cons x xs =>
       rw [Z16] at hx'
       cases hx'
       cases hv with
       | cons hv1 hv2 =>
        rcases Z13.1 hp with rfl | hp
        ·have := (Q34 hx.locs hx.hl hv1 h1).1.length
         rw [K.len] at this
         rw [← Z36]; exact this.symm
        ·exact ih _ xs m2 h2 rfl hv2 hp
    ·cases h
  exact key parts.toList tss xs m ht hxs hvs hp
 have hvl : vs.length = len := by simp [vs, hlen]
 obtain ⟨cells', e1, e2⟩ := fill_row (size := K.sz e) vs 0 [] ((Array.range (len * K.sz e)).map (z.cells[· % z.cells.size]!)).toList ((Array.range (len * K.sz e)).map (z.cells[· % z.cells.size]!)) hsize (by simp) (by simp) (by simp [hvl])
 have hvl2 : parts.toList.map (fun p => (p.1, a.eval p.2)) = (vs.zipIdx 0).map fun p => (p.2, p.1) := by
  have := zip_range (parts.toList.map fun p => (p.1, a.eval p.2)) 0 (by simp only [Z23, Z1, hlen, Z31, List.map_id']; exact hidx)
  simpa [vs, Z23, Function.comp_def] using this
 have e3 : cells'.toList = (parts.toList.map fun p => (a.eval p.2).cells.toList).flatten := by rw [e2, Z40]; simp [vs, Z23, Function.comp_def]
 have hcs : cells'.size = len * K.sz e := by
  rw [← Z36, e3, ← hO.length, Q2s]
  congr 1
  have : (xs.map (K.enc e inner)).length = tss.length := by rw [hxs]
  have h2 : ∀ (ps : List (Nat × Operand)) (tss : List (List (T Γ))) (m : List Nat), toTs st.loc inner (ps.map fun p => (st.ev p.2).cellsOf) = some (tss, m) → tss.length = ps.length := by
   intro ps
   induction ps with
   | nil => intro tss m h; simp [toTs] at h; simp [h.1]
   | cons q qs ih =>
    intro tss m h
    rw [Z16] at h
    simp only [toTs] at h
    split at h
    ·rename_i ts m1 tss' m2 h1 h2
     cases hC : (m1.all fun q => !(m2.contains q)) with
     | false => rw [hC] at h; cases h
     | true => rw [hC] at h; cases h; simp [ih _ _ h2]
    ·cases h
  rw [Z1] at this
  rw [this, h2 _ _ _ ht, hlen]
 have hrun : (Instr.buildSlice t len (parts.map fun (i, x) => (i, a.eval x))).run P w = .ok (.slice (some ⟨w.heap.size, 0, none⟩) len len) (w.alloc (.cells cells' e)) := by
  have hlim : ¬ (len * K.sz e > 2 ^ 24) := by omega
  have hfill : Instr.fill (fun i => some (i * K.sz e, K.sz e)) ((Array.range (len * K.sz e)).map (z.cells[· % z.cells.size]!)) (parts.map fun (i, x) => (i, a.eval x)).toList = some cells' := by
   rw [Array.toList_map]
   have : (fun (p : Nat × Operand) => match p with | (i, x) => (i, a.eval x)) = fun p => (p.1, a.eval p.2) := rfl
   rw [this, hvl2]; exact e1
  simp only [Instr.buildSlice, Z17, run_underlying hu, Z24, Q32 hi, hisz, hlim, if_false]
  by_cases h0 : len * K.sz e = 0
  ·rw [h0] at hfill
   simp only [h0, if_true]
   have hfill' : Instr.fill (fun i => some (i * K.sz e, K.sz e)) ((Array.range 0).map ((#[] : Array Value)[· % (#[] : Array Value).size]!)) (parts.map fun (i, x) => (i, a.eval x)).toList = some cells' := by
    rw [← hfill]; congr 1
    apply Array.ext (by simp)
    intro i h; simp at h
   rw [Z17, Z46, Z24]
   simp only [hfill']
   rfl
  ·simp only [h0, if_false, zeroValue, typeInfo, Z17, run_program, Z24, hi, hz, Z46, hfill]
   rfl
 have hlen' : xs.length = len := by
  have h1 : cells'.size = xs.length * K.sz e := by rw [← Z36, e3, ← hO.length, Q2s]
  rw [hcs] at h1
  exact (Nat.eq_of_mul_eq_mul_right (K.pos e) h1).symm
 have hmax : len ≤ maxLen := by
  have := K.pos e
  have : len * 1 ≤ len * K.sz e := Nat.mul_le_mul_left _ this
  simp only [maxLen]; omega
 have hsA := hx.locs.sameA (w' := w.alloc (.cells cells' e)) (fun b hb => Q2C w _ hb)
 have hOwn : Own K (w.alloc (.cells cells' e)) R.A (.sl true inner e xs) (.slice (some ⟨w.heap.size, 0, none⟩) len len) ([w.heap.size] ++ m.flatMap M) := by
  refine Own.sl (v := .slice (some ⟨w.heap.size, 0, none⟩) len len) (vs := cells'.toList) (by rw [hlen']; exact World.ownsRow_lit w cells' len (Z20 _) hmax hcs) ?_
  rw [e3]
  exact hO.frame (fun _ h => h) hsA (fun b hb => Q2C w _ (hfl b hb).2.1)
 refine ⟨.slice (some ⟨w.heap.size, 0, none⟩) len len, w.alloc (.cells cells' e), (killAll R m).new n (.row 0 inner e xs) (.slice (some ⟨w.heap.size, 0, none⟩) len len), _, _, .inl ?_, (Qh.killAll R m).trans (Qh.new (R := killAll R m) (hf n (Z7 _) (by omega)) _ _), hsA, ?_, fun r h => ?_,
  hx.locs.newRow (hf n (Z7 _) (by omega)) m hOwn hsA (by simp) (fun b hb _ => Q2C w _ hb) (fun b hb => ?_) ?_ (fun b hb => ?_), hx.fr.alloc _, row_new _ _ _ _ _ _ ⟨_, _, _, rfl⟩, rfl⟩
 ·unfold execOp
  simp only [ho]
  exact Q1P hrun
 ·rw [Q1L, ← hx.hl]; rfl
 ·exact h.imp id (fun h => by omega)
 ·rcases Z26.1 hb with hb | hb
  ·left; rw [Z38.1 hb]; exact Z7 _
  ·exact .inr (hfl b hb).1
 ·rw [Z33]
  refine ⟨by simp, hfn, fun x hx' y hy e => ?_⟩
  have := (hfl y hy).2.1
  rw [← e, Z38.1 hx'] at this
  omega
 ·rcases Z26.1 hb with hb | hb
  ·rw [Z38.1 hb]
   refine ⟨by simp, Q3g hx.fr, fun hA => ?_⟩
   have := hx.locs.alt _ hA
   omega
  ·have h := (hfl b hb).2
   exact ⟨Z54 h.1 (by simp), h.2⟩
end Go.Ev
/- Each operation's step: stores. -/
namespace Go.Ev
variable {Γ : TypeId → Type} {K : Cod Γ} {β : Type}
theorem splice_length {α : Type} (off : Nat) (new old : List α) (h : off + new.length ≤ old.length) : (splice off new old).length = old.length := by
 unfold splice
 simp only [Z10, Z8, Z19]
 omega
theorem splice_take {α : Type} (off : Nat) (new old : List α) (n : Nat) (h : off + new.length ≤ n) (hn : n ≤ old.length) : (splice off new old).take n = splice off new (old.take n) := by
 apply Z95
 intro j
 rw [Z55, Q3Y _ _ _ (by omega), Q3Y _ _ _ (by rw [Z8]; omega), Z55]
 by_cases h1 : j < n
 ·simp [h1]
 ·rw [if_neg h1, if_neg h1, if_neg (by omega)]
theorem size_ty {P : Program} {c : Ctx Γ K β} (hty : TyOk P K c.X c.ty) {t : TypeId} (h : Nat.ble 1 (c.size t) = true) : ∃ i, P.info? t = some i ∧ i.size = c.size t := by
 unfold Ctx.size at h ⊢
 split at h
 ·rename_i i hi
  obtain ⟨inf, h1, h2, _⟩ := (hty _ _ hi).info
  exact ⟨inf, h1, h2⟩
 ·cases h
theorem run_storeVar {P : Program} {w : World} {g : Nat} {cur : Array Value} {bt : TypeId} (hg : w.heap[g]? = some (.cells cur bt (0, 0))) {t : TypeId} {i : TypeInfo} (hi : P.info? t = some i) {off : Nat} {v : Value} (hs : v.cells.size = i.size) (hfit : off + i.size ≤ cur.size) (h1 : ∀ u ∈ v.cells.toList, u.oneCell' = true) :
  (Instr.storeAt t (.pointer (some ⟨g, off, none⟩)) v).run P w = .ok () (w.setRow g (splice off v.cells.toList cur.toList).toArray) := by
 have hst := run_storeCells_at P g off bt v.cells.toList 0 cur w hg (by rw [Z36]; omega) h1
 simp only [Z31] at hst
 simp only [Instr.storeAt, Instr.sureAddr, Z17, Z46, Z24, storeVar, Q32 hi, hs, ne_eq, not_true_eq_false, if_false]
 exact hst
theorem run_unit {P : Program} {w w' : World} {s : Sem Unit} (h : s.run P w = .ok () w') : (do s; pure Next.skip : Sem Next).run P w = .ok .skip w' := by
 rw [Z17, h]; rfl
theorem Qh.setBox {R : Rh Γ} {b : Nat} {t0 : TypeId} {cs0 : List (AV Γ)} (h : R.loc b = .box t0 cs0) (t : TypeId) (cs : List (AV Γ)) : Qh R { R with loc := Go.Ev.upd R.loc b (.box t cs) } := by
 refine ⟨fun _ h => h, fun _ h => h, fun r _ g i e xs hl => ?_, fun r _ g i e xs hl => ?_, fun r _ t' cs' hl => ?_⟩ <;>
  by_cases hq : r = b
 ·subst hq; simp at hl
 ·simp only [upd_ne _ _ hq] at hl; exact ⟨rfl, i, xs, hl, rfl⟩
 ·subst hq; simp at hl
 ·simp only [upd_ne _ _ hq] at hl; exact ⟨rfl, .inr ⟨i, e, xs, hl⟩⟩
 ·subst hq; exact ⟨rfl, t0, cs0, h⟩
 ·simp only [upd_ne _ _ hq] at hl; exact ⟨rfl, t', cs', hl⟩
theorem Qh.setBase {R : Rh Γ} {r g : Nat} {inner inner' : Bool} {e : TypeId} {xs : List (Γ e)} (h : (R.loc r).base = .row g inner e xs) (ys : List (Γ e)) (hl : xs.length = ys.length) {lv : LV Γ} (hb : lv.base = .row g inner' e ys) (hb2 : ∀ t cs, lv ≠ .box t cs) : Qh R { R with loc := Go.Ev.upd R.loc r lv } := by
 refine ⟨fun _ h => h, fun _ h => h, fun q _ g' i' e' xs' hl' => ?_, fun q _ g' i' e' xs' hl' => ?_, fun q _ t' cs' hl' => ?_⟩ <;>
  by_cases hq : q = r
 ·subst hq
  simp only [upd_same] at hl'
  rw [hb] at hl'
  injection hl' with a1 a2 a3 a4
  subst a1; subst a3; subst a2
  cases a4
  exact ⟨rfl, inner, xs, h, hl⟩
 ·simp only [upd_ne _ _ hq] at hl'; exact ⟨rfl, i', xs', hl', rfl⟩
 ·subst hq; simp only [upd_same] at hl'; subst hl'; cases hb
 ·simp only [upd_ne _ _ hq] at hl'; exact ⟨rfl, .inr ⟨i', e', xs', hl'⟩⟩
 ·subst hq; simp only [upd_same] at hl'; exact absurd hl' (hb2 _ _)
 ·simp only [upd_ne _ _ hq] at hl'; exact ⟨rfl, t', cs', hl'⟩
theorem Qh.setRow {R : Rh Γ} {r g : Nat} {inner : Bool} {e : TypeId} {xs : List (Γ e)} (h : R.loc r = .row g inner e xs) (ys : List (Γ e)) (hl : xs.length = ys.length) : Qh R { R with loc := Go.Ev.upd R.loc r (.row g inner e ys) } :=
 Qh.setBase (by rw [h]) ys hl (lv := .row g inner e ys) rfl (fun _ _ h => by cases h)
theorem Fr.setRow {w0 w : World} {L0 : Fm} (h : Fr w0 L0 w) (g : Nat) (hg : mine w0 L0 g) (cs : Array Value) : Fr w0 L0 (w.setRow g cs) :=
 h.step rfl rfl rfl (Z7 _) (by simp) fun b _ hb => setRow_other w g b cs (fun e => hb (e ▸ hg))
theorem VR.ptr_inv {w : World} {R : Rh Γ} {b off : Nat} {v : Value} (h : VR K w R (.ptr b off) v) : ∃ g, v = .pointer (some ⟨g, off, none⟩) ∧ R.N b ∧ ∀ t cs, R.loc b = .box t cs → R.hdr b = .pointer (some ⟨g, 0, none⟩) := by
 cases h with | ptr hN hp => exact ⟨_, rfl, hN, hp⟩
theorem storeBox_sound {P : Program} {c : Ctx Γ K β} (hty : TyOk P K c.X c.ty) {w0 : World} {L0 : Fm} {st : St Γ} {n : Nat} {o : Oper} {t : TypeId} {A X : Operand} (ho : o.op = .store t A X) {b off : Nat} (hA : st.ev A = .ptr b off) {bt : TypeId} {cs : List (AV Γ)} (hb : st.loc b = .box bt cs)
  {kk : Act Γ → Option β} {r : β} (h : Q1W c n t (st.ev X) (fun act => bif act.val.cellsOk && act.val.cellsOf.length.beq (c.size t) && Nat.ble 1 (c.size t) && (off + c.size t).ble cs.length then kk ⟨.undef, (b, .box bt (splice off act.val.cellsOf cs)) :: act.upd⟩ else none) = some r) :
  Q2h P K w0 L0 st n o (fun kk => Q1W c n t (st.ev X) (fun act => bif act.val.cellsOk && act.val.cellsOf.length.beq (c.size t) && Nat.ble 1 (c.size t) && (off + c.size t).ble cs.length then kk ⟨.undef, (b, .box bt (splice off act.val.cellsOf cs)) :: act.upd⟩ else none)) := by
 obtain ⟨act, h1, hid, _, h2⟩ := Q3c h
 rw [h1] at h
 cases hC : (act.val.cellsOk && act.val.cellsOf.length.beq (c.size t) && Nat.ble 1 (c.size t) && (off + c.size t).ble cs.length) with
 | false => rw [hC] at h; cases h
 | true =>
  refine ⟨⟨.undef, (b, .box bt (splice off act.val.cellsOf cs)) :: act.upd⟩, fun kk' => (h1 _).trans (by rw [hC]; rfl), Q2N fun R M own a w hx hf => ?_⟩
  simp only [Z4] at hC
  obtain ⟨⟨⟨hc1, hc2⟩, hc3⟩, hc4⟩ := hC
  obtain ⟨i, hi, his⟩ := size_ty hty hc3
  have hap := hx.ev A
  rw [hA] at hap
  obtain ⟨R1, M1, e1, e2, e3, hcm, hL1, hv1⟩ := h2 w R M own (mine w0 L0) _ hx.locs (hx.ev X) (hf _ (Z7 _) (by omega))
  have hvl := Q33 hv1 hc1
  obtain ⟨g, hap', hN, hp⟩ := VR.ptr_inv hap
  ·have hbN : b ≠ n := fun e => hf n (Z7 _) (by omega) (e ▸ hN)
   have hloc1 : R1.loc b = .box bt cs := by
    rw [e1, hx.hl]
    have : ∀ us : List (Nat × LV Γ), (∀ i ∈ us.map (·.1), i = n) → Qp st.loc us b = st.loc b := by
     intro us
     induction us with
     | nil => intro _; rfl
     | cons u us ih =>
      intro hu
      obtain ⟨j, lv⟩ := u
      rw [Q1L, Go.Ev.upd_ne _ _ (by rw [hu j (by simp)]; exact hbN)]
      exact ih fun i hi => hu i (by simp [hi])
    rw [this _ hid, hb]
   have hlr := hL1.lr b
   rw [hloc1] at hlr
   obtain ⟨g', cc, q1, q2, q3, q4⟩ := hlr
   have hgg : g' = g := by
    have := hp bt cs (by rw [hx.hl, hb])
    have h3 := (hcm.box b hN bt cs hloc1).1
    rw [q1, this] at h3
    injection h3 with h3; injection h3 with h3; injection h3
   subst hgg
   have hown : own g' = some b := hL1.own b (by rw [hloc1]; trivial) g' (by simp [q2])
   have hlt := hL1.lt b (by rw [hloc1]; trivial) g' (by simp [q2])
   have hsz : (a.eval X).cells.size = i.size := by rw [his, ← beq_eq hc2, hvl.length, Z36]
   have hfit : off + i.size ≤ cc.size := by
    have := Q2i hc4
    rw [← Z36, ← q4.length, his]; exact this
   have hrun := run_storeVar (P := P) q3 hi hsz hfit hvl.one
   have hs' : Same R.A w (w.setRow g' (splice off (a.eval X).cells.toList cc.toList).toArray) := fun b' hb' => setRow_other _ _ _ _ (fun e => hlt.2.2 (by rw [e2]; exact e ▸ hb'))
   have hcb := Qh.setBox hloc1 bt (splice off act.val.cellsOf cs)
   refine ⟨undef, _, { R1 with loc := Go.Ev.upd R1.loc b (.box bt (splice off act.val.cellsOf cs)) }, Go.Ev.upd M1 b [g'], own, .inr ⟨?_, rfl⟩, hcm.trans hcb, hs', ?_, fun r h => (e3 r h).imp id (fun h => by omega), ?_, hx.fr.setRow _ hlt.2.1 _, .undef _, e2⟩
   ·unfold execOp
    simp only [ho]
    rw [hap']
    exact run_unit hrun
   ·rw [Q1L, ← hx.hl, ← e1]
   ·refine hL1.put b _ (.pointer (some ⟨g', 0, none⟩)) [g'] hcb (by rw [e2]; exact hs') rfl ?_ rfl (fun j hj hl b' hb' => ⟨setRow_other _ _ _ _ (fun e => ?_), hL1.own j hl b' hb'⟩) (by simp) ?_ (fun _ b' hb' => by rw [Z38.1 hb']; exact hown) (fun _ => by simp) (fun _ b' hb' => ?_)
    ·show R1.hdr = _; rw [← q1, Q3b]
    ·have := hL1.own j hl b' hb'
     rw [e, hown] at this
     exact hj (Option.some.inj this).symm
    ·refine ⟨g', _, rfl, rfl, setRow_heap w g' cc _ bt _ q3, ?_⟩
     have := (q4.splice off hvl).move hcb (w' := w.setRow g' (splice off (a.eval X).cells.toList cc.toList).toArray) (by rw [e2]; exact hs')
     simpa using this
    ·rw [Z38.1 hb']; exact ⟨by simpa using hlt.1, hlt.2⟩
end Go.Ev
/- Each operation's step: stores into elements; make; append. -/
namespace Go.Ev
variable {Γ : TypeId → Type} {K : Cod Γ} {β : Type}
theorem VR.er_inv {w : World} {R : Rh Γ} {r g i off : Nat} {v : Value} (h : VR K w R (.er r g i off) v) : ∃ ad, v = .pointer (some ad) ∧ R.N r ∧ ∀ j e xs, (R.loc r).base = .row g j e xs → i < xs.length ∧ ∃ b n cap, R.hdr r = .slice (some ⟨b, 0, none⟩) n cap ∧ ad = ⟨b, i * K.sz e + off, none⟩ := by
 cases h with | er hN hp => exact ⟨_, rfl, hN, hp⟩
theorem OwnL.spliceOwn {w : World} {A : Nat → Prop} {ts new : List (T Γ)} {vs us : List Value} {L Ln : List Nat} (off : Nat) (h : OwnL K w A ts vs L) (k : OwnL K w A new us Ln) (hl : off + new.length ≤ ts.length) :
  ∃ L1 L2 L3, L = L1 ++ L2 ++ L3 ∧ OwnL K w A (splice off new ts) (splice off us vs) (L1 ++ Ln ++ L3) := by
 obtain ⟨La, Lb, e1, h1, h2⟩ := h.take off
 obtain ⟨Lc, Ld, e2, h3, h4⟩ := h2.take new.length
 refine ⟨La, Lc, Ld, by rw [e1, e2, Z28], ?_⟩
 unfold splice
 rw [Z96] at h4
 have hk := k.length
 rw [Z96, hk] at h4
 rw [hk]
 exact (h1.append k).append h4
theorem splice_mid {α : Type} (off : Nat) (new a b c : List α) (h : off + new.length ≤ b.length) : splice (a.length + off) new (a ++ b ++ c) = a ++ splice off new b ++ c := by
 unfold splice
 have h1 : (a ++ b ++ c).take (a.length + off) = a ++ b.take off := by
  rw [Z28, List.take_append, Z37 (by omega), Z101, List.take_append_of_le_length (by omega)]
 have h2 : (a ++ b ++ c).drop (a.length + off + new.length) = b.drop (off + new.length) ++ c := by
  rw [Z28, List.drop_append, Z53 (by omega), Z40, Z65, Z101, List.drop_append_of_le_length (by omega)]
 rw [h1, h2]; simp
theorem list_set_mid {α : Type} (xs : List α) (i : Nat) (y : α) (h : i < xs.length) : xs.set i y = xs.take i ++ [y] ++ xs.drop (i + 1) := by
 rw [List.set_eq_take_append_cons_drop, if_pos h]; simp
theorem cells_set {inner : Bool} {e : TypeId} (xs : List (Γ e)) (i : Nat) (x y : Γ e) (hx : xs[i]? = some x) (off : Nat) (ts : List (T Γ)) (hy : K.enc e inner y = splice off ts (K.enc e inner x)) (hl : off + ts.length ≤ K.sz e) :
  cells K inner e (xs.set i y) = splice (i * K.sz e + off) ts (cells K inner e xs) := by
 have hi : i < xs.length := by
  rcases Z34 i xs.length with h' | h'
  ·exact h'
  ·simp [Z21 h'] at hx
 have hl1 : (cells K inner e (xs.take i)).length = i * K.sz e := by rw [Q2s, Z8, Z68 (Nat.le_of_lt hi)]
 rw [list_set_mid xs i y hi, Q3u, Q3u, cells_one, cells_mid inner e xs i x hx, hy, ← hl1, splice_mid _ _ _ _ _ (by rw [K.len]; exact hl)]
theorem ownsRow_splice {P : Program} {w : World} {base e sz n g cap : Nat} {vs : List Value} (h : w.ownsRow base e sz (.slice (some ⟨g, 0, none⟩) n cap) n vs) (o : Nat) (news : List Value) (hl : o + news.length ≤ n * sz) (h1 : ∀ u ∈ news, u.oneCell' = true) :
  ∃ cur, w.heap[g]? = some (.cells cur e (0, 0)) ∧ o + news.length ≤ cur.size ∧ (w.setRow g (splice o news cur.toList).toArray).ownsRow base e sz (.slice (some ⟨g, 0, none⟩) n cap) n (splice o news vs) := by
 rcases h.2 with ⟨h', _⟩ | ⟨g', cap', cur, h', hb, hg, hnc, hcm, hcs, htake⟩
 ·simp at h'
 ·simp only [Value.slice.injEq, Option.some.injEq, Addr.mk.injEq, and_true, true_and] at h'
  obtain ⟨rfl, rfl⟩ := h'
  have hle : n * sz ≤ cap * sz := Z64 _ hnc
  refine ⟨cur, hg, by omega, by rw [splice_length _ _ _ (by rw [h.1]; exact hl)]; exact h.1, .inr ⟨g, cap, _, rfl, hb, setRow_heap w g cur _ e _ hg, hnc, hcm, ?_, ?_⟩⟩
  ·rw [List.size_toArray, splice_length _ _ _ (by rw [Z36 (xs := cur)]; omega), Z36, hcs]
  ·rw [List.toList_toArray, splice_take _ _ _ _ hl (by rw [Z36 (xs := cur)]; omega), htake]
theorem storeEl_sound {P : Program} {c : Ctx Γ K β} (hty : TyOk P K c.X c.ty) {w0 : World} {L0 : Fm} {st : St Γ} {n : Nat} {o : Oper} {t : TypeId} {A X : Operand} (ho : o.op = .store t A X) {r g i off : Nat} (hA : st.ev A = .er r g i off) {inner : Bool} {e : TypeId} {xs : List (Γ e)} (hr : st.loc r = .row g inner e xs)
  {x y : Γ e} (hx : xs[i]? = some x) {ts : List (T Γ)} {m : List Nat} (ht : toT st.loc inner (st.ev X).cellsOf = some (ts, m)) (hc1 : ts.length.beq (c.size t) = true) (hc2 : Nat.ble 1 (c.size t) = true) (hc3 : (off + c.size t).ble (K.sz e) = true) (hc4 : r ∉ m) (hy : K.dec e inner (splice off ts (K.enc e inner x)) = some y) :
  Q1V P K w0 L0 st n o ⟨.undef, (r, .row g inner e (xs.set i y)) :: kill m⟩ := by
 refine Q2N fun R M own a w hsx hf => ?_
 obtain ⟨ii, hi, his⟩ := size_ty hty hc2
 have hap := hsx.ev A
 rw [hA] at hap
 obtain ⟨ad, hap', hN, hp⟩ := VR.er_inv hap
 obtain ⟨hil, gb, nn, cap, hh, rfl⟩ := hp inner e xs (by rw [hsx.hl, hr])
 have hck : (st.ev X).cellsOk = true := by cases hX : st.ev X <;> first | rfl | (rw [hX] at ht; simp [AV.cellsOf, toT] at ht)
 have hvl := Q33 (hsx.ev X) hck
 obtain ⟨hO, hnd, hlive⟩ := Q34 hsx.locs hsx.hl hvl ht
 obtain ⟨hfn, hfl⟩ := hsx.locs.flat m hnd hlive
 have hlr := hsx.locs.lr r
 have hlrl : (R.loc r).live := by rw [hsx.hl, hr]; trivial
 rw [hsx.hl, hr] at hlr
 have hndr := hsx.locs.nodup r hlrl
 have hownr := hsx.locs.own r hlrl
 have hltr := hsx.locs.lt r hlrl
 have hdis : ∀ b ∈ M r, b ∉ m.flatMap M := fun b hb hb' => by
  obtain ⟨⟨q, hq, hoq⟩, _⟩ := hfl b hb'
  rw [hownr b hb] at hoq
  exact hc4 (Option.some.inj hoq ▸ hq)
 generalize hM : M r = Mr at hlr hndr hownr hltr hdis
 rw [hh] at hlr
 have hy' := K.ok e inner _ y hy
 have htl : ts.length = c.size t := beq_eq hc1
 have hsz := Q2i hc3
 have hmul : i * K.sz e + K.sz e ≤ xs.length * K.sz e := by rw [← Z70]; exact Z64 _ hil
 cases hlr with
 | sl hrow hl =>
  rename_i vs Lr
  have hnn : nn = xs.length := by
   obtain ⟨a', c', e', _⟩ := Q30 hrow
   injection e'
  subst hnn
  have hul : (a.eval X).cells.toList.length = c.size t := by rw [← hO.length, htl]
  obtain ⟨cur, hg, hfit, hrow'⟩ := ownsRow_splice (P := P) hrow (i * K.sz e + off) (a.eval X).cells.toList (by rw [hul]; omega) hvl.one
  have hrun := run_storeVar (P := P) (t := t) (off := i * K.sz e + off) (v := a.eval X) hg hi (by rw [his, ← Z36, hul]) (by rw [his, ← hul]; exact hfit) hvl.one
  obtain ⟨La, Lb, Lc, e1, hOn⟩ := OwnL.spliceOwn (i * K.sz e + off) hl hO (by rw [Q2s, htl]; omega)
  rw [← cells_set xs i x y hx off ts hy' (by rw [htl]; exact hsz)] at hOn
  have hgM : gb ∉ Lr := by
   simp only [blk, Z106, Z78] at hndr
   exact hndr.1
  have hndL : Lr.Nodup := by
   simp only [blk, Z106, Z78] at hndr
   exact hndr.2
  have hgmem : gb ∈ (blk (.slice (some ⟨gb, 0, none⟩) xs.length cap) ++ Lr : List Nat) := by simp [blk]
  have hlt := hltr gb hgmem
  have hs' : Same R.A w (w.setRow gb (splice (i * K.sz e + off) (a.eval X).cells.toList cur.toList).toArray) := fun b' hb' => setRow_other _ _ _ _ (fun e => hlt.2.2 (e ▸ hb'))
  have hLn : ∀ b ∈ La ++ m.flatMap M ++ Lc, b ∈ Lr ∨ b ∈ m.flatMap M := by
   intro b hb
   simp only [Z26] at hb
   rcases hb with (hb | hb) | hb
   ·left; rw [e1]; simp [hb]
   ·exact .inr hb
   ·left; rw [e1]; simp [hb]
  have hgL : gb ∉ La ++ m.flatMap M ++ Lc := fun h => (hLn gb h).elim hgM (hdis gb hgmem)
  have hOwn : Own K (w.setRow gb (splice (i * K.sz e + off) (a.eval X).cells.toList cur.toList).toArray) R.A (.sl true inner e (xs.set i y)) (.slice (some ⟨gb, 0, none⟩) xs.length cap) ([gb] ++ (La ++ m.flatMap M ++ Lc)) := by
   refine Own.sl (v := .slice (some ⟨gb, 0, none⟩) xs.length cap) (by rw [Z92]; exact hrow') (hOn.frame (fun _ h => h) hs' fun b hb => setRow_other _ _ _ _ (fun e => hgL (e ▸ hb)))
  have hloc0 : (killAll R m).loc r = .row g inner e xs := by rw [Q3G, if_neg hc4, hsx.hl, hr]
  have hcr := Qh.setRow hloc0 (xs.set i y) (by simp)
  refine ⟨undef, _, { killAll R m with loc := Go.Ev.upd (killAll R m).loc r (.row g inner e (xs.set i y)) }, Go.Ev.upd M r ([gb] ++ (La ++ m.flatMap M ++ Lc)), (fun b => if b ∈ ([gb] ++ (La ++ m.flatMap M ++ Lc)) then some r else own b), .inr ⟨?_, rfl⟩, (Qh.killAll R m).trans hcr, hs', ?_, fun r h => .inl h, ?_, hsx.fr.setRow _ hlt.2.1 _, .undef _, rfl⟩
  ·unfold execOp
   simp only [ho]
   rw [hap']
   exact run_unit hrun
  ·rw [Q1L, ← hsx.hl]; rfl
  ·refine hsx.locs.gather m r _ (R.hdr r) ([gb] ++ (La ++ m.flatMap M ++ Lc)) hcr hs' rfl (by rw [Q3b]; rfl) rfl (by simp) (fun b hb h1 h2 => setRow_other _ _ _ _ (fun e => h1 (e ▸ hownr gb hgmem))) (by rw [hh]; exact hOwn) (fun b hb => ?_) ?_ (fun b hb => ?_)
   ·rcases Z26.1 hb with hb | hb
    ·rw [Z38.1 hb]; exact .inr (.inl (hownr gb hgmem))
    ·rcases hLn b hb with hb | hb
     ·exact .inr (.inl (hownr b (by simp [hb])))
     ·exact .inr (.inr (hfl b hb).1)
   ·rw [e1] at hndL
    rw [Z106, Z78]
    refine ⟨hgL, ?_⟩
    have hac : (La ++ Lc).Nodup := hndL.sublist (by
     rw [Z28]
     exact List.Sublist.append (List.Sublist.refl _) (List.sublist_append_right _ _))
    rw [Z33] at hac
    rw [Z33, Z33]
    refine ⟨⟨hac.1, hfn, fun a ha b hb e => ?_⟩, hac.2.1, fun a ha b hb e => ?_⟩
    ·subst e; exact hdis a (by simp [e1, ha]) hb
    ·subst e
     rcases Z26.1 ha with ha | ha
     ·exact hac.2.2 a ha a hb rfl
     ·exact hdis a (by simp [e1, hb]) ha
   ·have : b ∈ (blk (.slice (some ⟨gb, 0, none⟩) xs.length cap) ++ Lr : List Nat) ∨ b ∈ m.flatMap M := by
     rcases Z26.1 hb with hb | hb
     ·rw [Z38.1 hb]; exact .inl hgmem
     ·exact (hLn b hb).imp (fun h => by simp [h]) id
    rcases this with h | h
    ·exact ⟨by simpa using (hltr b h).1, (hltr b h).2⟩
    ·exact ⟨by simpa using (hfl b h).2.1, (hfl b h).2.2⟩
end Go.Ev
/- Each operation's step: make, append. -/
namespace Go.Ev
variable {Γ : TypeId → Type} {K : Cod Γ} {β : Type}
theorem OwnL.rep {w : World} {A : Nat → Prop} {ts : List (T Γ)} {vs : List Value} (h : OwnL K w A ts vs []) : ∀ n : Nat, OwnL K w A (List.replicate n ts).flatten (List.replicate n vs).flatten []
 | 0 => .nil
 | n + 1 => by
  rw [List.replicate_succ, Z44, List.replicate_succ, Z44]
  exact h.append (h.rep n)
theorem rangeRep (z : Array Value) (s : Nat) (hs : z.size = s) (hp : 0 < s) : ∀ n : Nat, (madeCells z (n * s)).toList = (List.replicate n z.toList).flatten := by
 intro n
 apply Z95
 intro j
 have hl : ∀ n : Nat, (List.replicate n z.toList).flatten.length = n * s := by
  intro n; simp [hs]
 by_cases hj : j < n * s
 ·have h1 : (madeCells z (n * s)).toList[j]? = some (z[j % z.size]!) := by simp [madeCells, hj]
  rw [h1]
  have hm : j % s < s := Nat.mod_lt _ hp
  have hq : j / s < n := by
   rw [Nat.div_lt_iff_lt_mul hp]; exact hj
  have key : ∀ (q n : Nat), q < n → ∀ r, r < s → (List.replicate n z.toList).flatten[q * s + r]? = z.toList[r]? := by
   intro q
   induction q with
   | zero =>
    intro n hn r hr
    cases n with
    | zero => omega
    | succ n =>
     rw [List.replicate_succ, Z44, Nat.zero_mul, Z25, Z94 (by simp [hs, hr])]
   | succ q ih =>
    intro n hn r hr
    cases n with
    | zero => omega
    | succ n =>
     rw [List.replicate_succ, Z44, Z76 (by rw [Z36, hs, Z70]; omega)]
     have : (q + 1) * s + r - z.toList.length = q * s + r := by rw [Z36, hs, Z70]; omega
     rw [this]
     exact ih n (by omega) r hr
  have := key (j / s) n hq (j % s) hm
  rw [Z56, Nat.div_add_mod] at this
  rw [this, hs]
  simp [hm, hs]
 ·rw [Z21 (by rw [Z36, size_madeCells]; omega), Z21 (by rw [hl]; omega)]
theorem limOk_ty {P : Program} {c : Ctx Γ K β} (hty : TyOk P K c.X c.ty) {e : TypeId} {n : Nat} (h : limOk c e n = true) {ie : TypeInfo} (hi : P.info? e = some ie) : n * ie.bytes ≤ 140737488355328 ∧ n ≤ 140737488355328 := by
 unfold limOk at h
 split at h
 ·rename_i i hit
  obtain ⟨inf, h1, _, h3, _⟩ := (hty _ _ hit).info
  rw [hi] at h1; cases h1
  rw [Z4] at h
  have h4 := Q2i h.1
  have h5 := of_decide_eq_true h.2
  rw [h3]
  refine ⟨h5, Z35 ?_ h5⟩
  calc n = n * 1 := (Z83 n).symm
   _ ≤ n * i.bytes := Nat.mul_le_mul_left _ h4
 ·cases h
theorem replicate_cells {inner : Bool} {e : TypeId} (x : Γ e) (n : Nat) : cells K inner e (List.replicate n x) = (List.replicate n (K.enc e inner x)).flatten := by
 simp [cells]
theorem sameOp_eq {st : St Γ} {w0 : World} {L0 : Fm} {R : Rh Γ} {M : Nat → List Nat} {own : Nat → Option Nat} {a : Go.Act} {w : World} (hx : SRx K w0 L0 R M own st a w) {l cp : Operand} (h : sameOp l cp = true) {k : IntKind} {n : Int} (hl : st.ev l = .int k n) :
  a.eval l = .int k n ∧ ∃ k', a.eval cp = .int k' n := by
 have h1 := hx.ev l
 rw [hl] at h1
 have e1 : a.eval l = .int k n := by generalize a.eval l = v at h1; cases h1; rfl
 refine ⟨e1, ?_⟩
 unfold sameOp at h
 split at h
 ·rename_i i j
  rw [beq_eq h] at e1; exact ⟨k, e1⟩
 ·rename_i k1 a1 k2 b1
  have := of_decide_eq_true h
  subst this
  cases e1
  exact ⟨k2, rfl⟩
 ·cases h
theorem makeSlice_sound {P : Program} {c : Ctx Γ K β} (hty : TyOk P K c.X c.ty) {w0 : World} {L0 : Fm} {st : St Γ} {n : Nat} {o : Oper} {t e : TypeId} {l cp : Operand} (ho : o.op = .makeSlice t l cp)
  (hE : c.elem t = some e) {k : IntKind} {len : Int} (hl : st.ev l = .int k len) (hs : sameOp l cp = true) (h0 : 0 ≤ len) (hlim : limOk c e len.toNat = true) :
  Q1V P K w0 L0 st n o ⟨.sl n 0, [(n, .row 0 (c.inner e) e (List.replicate len.toNat (c.X.zero e)))]⟩ := by
 refine Q2N fun R M own a w hx hf => ?_
 obtain ⟨hu, ie, hi, hisz, z, hz, hzs, hzo⟩ := Q2w hty hE
 obtain ⟨e1, k', e2⟩ := sameOp_eq hx hs hl
 obtain ⟨b1, b2⟩ := limOk_ty hty hlim hi
 have hn : len = (len.toNat : Int) := by omega
 obtain ⟨w', hr, hO, hg⟩ := run_make_full (P := P) w 0 t e ie z (K.sz e) hu hi hz hisz k k' len.toNat (by rw [Z56]; omega) (by simp only [maxLen]; omega) (Z20 _)
 rw [← hn] at hr
 have hblk : ∀ b, b < w.heap.size → w'.heap[b]? = w.heap[b]? := fun b hb => hg.block b hb (by simp)
 have hsA := hx.locs.sameA (w' := w') hblk
 have hsz : w.heap.size < w'.heap.size := by
  rcases hO.2 with ⟨h, _⟩ | ⟨g, _, cur, h, _, hgg, _⟩
  ·cases h
  ·cases h
   exact (Z72.1 hgg).1
 have hOwn : Own K w' R.A (.sl true (c.inner e) e (List.replicate len.toNat (c.X.zero e))) (.slice (some ⟨w.heap.size, 0, none⟩) len.toNat len.toNat) ([w.heap.size] ++ []) := by
  refine Own.sl (v := .slice (some ⟨w.heap.size, 0, none⟩) len.toNat len.toNat) (vs := (madeCells z.cells (len.toNat * K.sz e)).toList) (by rw [Z84]; exact hO) ?_
  rw [replicate_cells, rangeRep _ _ hzs (K.pos e)]
  exact (hzo w' R.A (c.inner e)).rep _
 refine ⟨_, w', (killAll R []).new n (.row 0 (c.inner e) e (List.replicate len.toNat (c.X.zero e))) (.slice (some ⟨w.heap.size, 0, none⟩) len.toNat len.toNat), _, _, .inl ?_, (Qh.killAll R []).trans (Qh.new (R := killAll R []) (hf n (Z7 _) (by omega)) _ _), hsA, ?_, fun r h => h.imp id (fun h => by omega),
  hx.locs.newRow (hf n (Z7 _) (by omega)) [] hOwn hsA hg.size (fun b hb _ => hblk b hb) (fun b hb => ?_) (by simp) (fun b hb => ?_), hx.fr.step hg.os hg.tape hg.output (run_drawn _ _ _ _ hr) hg.size (fun b hb _ => hblk b hb), row_new _ _ _ _ _ _ ⟨_, _, _, rfl⟩, rfl⟩
 ·unfold execOp
  simp only [ho, e1, e2]
  exact Q1P hr
 ·rw [Q1L, ← hx.hl]; rfl
 ·rw [Z30, Z38] at hb; rw [hb]; exact .inl (Z7 _)
 ·rw [Z30, Z38] at hb; rw [hb]
  refine ⟨hsz, Q3g hx.fr, fun hA => ?_⟩
  have := hx.locs.alt _ hA
  omega
theorem run_append_zero {P : Program} (w : World) (base : Nat) (t ty e : TypeId) (i : TypeInfo) (size : Nat) (ht : P.underlying t = some (.slice e)) (hi : P.info? e = some i)
  (v : Value) (n : Nat) (xs : List Value) (hown : w.ownsRow base e size v n xs) (a : Option Addr) (c : Nat) :
  (Builtin.append_ #[t, t] ty #[v, .slice a 0 c]).run P w = .ok v w := by
 have hf : (Builtin.firstCells i.size 0 (.slice a 0 c)).run P w = .ok #[] w := by
  cases a with
  | none => rfl
  | some a => simp [Builtin.firstCells, loadCells, loadCellsFrom]
 rcases hown.2 with ⟨rfl, rfl⟩ | ⟨g, cap, cur, rfl, _, _, hnc, _⟩
 ·simp [Builtin.append_, run_underlying ht, sizeOf, typeInfo, hi, Builtin.lenOf, hf]
 ·simp [Builtin.append_, run_underlying ht, sizeOf, typeInfo, hi, Builtin.lenOf, hf, hnc, storeCells]
theorem blk_own (v : Value) : blk v = v.ownBlock.toList := by
 cases v with
 | slice a n c => cases a <;> rfl
 | _ => rfl
theorem append_core {P : Program} {c : Ctx Γ K β} (hty : TyOk P K c.X c.ty) {w : World} {A : Nat → Prop} {t e : TypeId} (hE : c.elem t = some e) {inner : Bool} {xs ys : List (Γ e)} (hlim : limOk c e (xs.length + ys.length) = true)
  {h : Value} {Mr : List Nat} (hO : Own K w A (.sl true inner e xs) h Mr) (hnd : Mr.Nodup) (hM : ∀ b ∈ Mr, b < w.heap.size ∧ ¬ A b) (hA : ∀ b, A b → b < w.heap.size)
  {ad : Option Addr} {cp : Nat} {news : List Value} {Ln : List Nat} (hN : OwnL K w A (cells K inner e ys) news Ln) (hcell : ∀ j u, news[j]? = some u → ∃ a, ad = some a ∧ w.cell? (a.add j) = some u) (hLnd : Ln.Nodup) (hLn : ∀ b ∈ Ln, b < w.heap.size ∧ ¬ A b ∧ b ∉ Mr) (ty : TypeId) :
  ∃ h' w' L', (Builtin.append_ #[t, t] ty #[h, .slice ad ys.length cp]).run P w = .ok h' w' ∧ Own K w' A (.sl true inner e (xs ++ ys)) h' L' ∧ L'.Nodup ∧ (∀ b ∈ L', b < w'.heap.size ∧ ¬ A b ∧ (b ∈ Mr ∨ b ∈ Ln ∨ b = w.heap.size)) ∧
   w'.os = w.os ∧ w'.tape = w.tape ∧ w'.output = w.output ∧ w.heap.size ≤ w'.heap.size ∧ (∀ b, b < w.heap.size → b ∉ Mr → w'.heap[b]? = w.heap[b]?) ∧ Same A w w' := by
 obtain ⟨hu, ie, hi, hisz, z, hz, hzs, hzo⟩ := Q2w hty hE
 obtain ⟨b1, b2⟩ := limOk_ty hty hlim hi
 cases hO with
 | sl hrow hl =>
  rename_i vs L0
  have hnl : news.length = ys.length * K.sz e := by rw [← hN.length, Q2s]
  cases hys : ys with
  | nil =>
   subst hys
   refine ⟨h, w, _, run_append_zero w 0 t ty e ie (K.sz e) hu hi h _ _ hrow ad cp, by rw [Z30]; exact .sl hrow hl, hnd, fun b hb => ⟨(hM b hb).1, (hM b hb).2, .inl hb⟩, rfl, rfl, rfl, Z7 _, fun _ _ _ => rfl, fun _ _ => rfl⟩
  | cons y0 ys0 =>
   rw [← hys]
   have hpos : 0 < news.length := by rw [hnl]; exact Nat.mul_pos (by simp [hys]) (K.pos e)
   obtain ⟨a, rfl, _⟩ := hcell 0 news[0] (Z3 hpos)
   obtain ⟨h', w', hr, hO', hg, _, hblk⟩ := run_append_own_at (P := P) w 0 t ty e ie z (K.sz e) ie.bytes hu hi hz hisz rfl hzs (K.pos e) h xs.length vs hrow a ys.length cp news hnl
    (fun j u hj => by obtain ⟨a', e', hc⟩ := hcell j u hj; cases e'; exact hc) hN.one (by simp only [maxLen]; omega) b1 (Z20 _)
   have hsA : Same A w w' := fun b hb => hg.block b (hA b hb) (fun e' => by
    have : b ∈ blk h := by rw [blk_own, ← e']; simp
    exact (hM b (by simp [this])).2 hb)
   have hkeep : ∀ b, b < w.heap.size → b ∉ blk h → w'.heap[b]? = w.heap[b]? := fun b hb hn => hg.block b hb (fun e' => hn (by rw [blk_own, ← e']; simp))
   have hnd' := Z33.1 hnd
   have hL0 : OwnL K w' A (cells K inner e xs) vs L0 := hl.frame (fun _ h => h) hsA fun b hb => hkeep b (hM b (by simp [hb])).1 (fun hb' => hnd'.2.2 b hb' b hb rfl)
   have hLn' : OwnL K w' A (cells K inner e ys) news Ln := hN.frame (fun _ h => h) hsA fun b hb => hkeep b (hLn b hb).1 (fun hb' => (hLn b hb).2.2 (by simp [hb']))
   have hb' : ∀ b ∈ blk h', b < w'.heap.size ∧ ¬ A b ∧ (b ∈ blk h ∨ b = w.heap.size) := by
    intro b hb
    have hlt := (hO'.lt b (by rw [blk_own] at hb; simpa using hb)).2
    rw [blk_own] at hb ⊢
    rcases hblk with hblk | hblk
    ·rw [hblk] at hb
     refine ⟨hlt, (hM b ?_).2, .inl hb⟩
     rw [blk_own]; simp [hb]
    ·rw [hblk] at hb
     simp at hb
     exact ⟨hlt, fun hAb => by have := hA b hAb; omega, .inr hb⟩
   refine ⟨h', w', blk h' ++ (L0 ++ Ln), hr, .sl (by rw [Z10]; exact hO') (by rw [Q3u]; exact hL0.append hLn'), ?_, fun b hb => ?_, hg.os, hg.tape, hg.output, hg.size, fun b hb hn => hkeep b hb (fun hb' => hn (by simp [hb'])), hsA⟩
   ·rw [Z33, Z33]
    refine ⟨?_, ⟨hnd'.2.1, hLnd, fun a ha b hb e => ?_⟩, fun a ha b hb e => ?_⟩
    ·rw [blk_own]; cases h'.ownBlock <;> simp
    ·subst e; exact (hLn a hb).2.2 (by simp [ha])
    ·subst e
     rcases (hb' a ha).2.2 with h1 | h1
     ·rcases Z26.1 hb with hb | hb
      ·exact hnd'.2.2 a h1 a hb rfl
      ·exact (hLn a hb).2.2 (by simp [h1])
     ·rcases Z26.1 hb with hb | hb
      ·have := (hM a (by simp [hb])).1; omega
      ·have := (hLn a hb).1; omega
   ·rcases Z26.1 hb with hb | hb
    ·obtain ⟨h1, h2, h3⟩ := hb' b hb
     exact ⟨h1, h2, h3.imp (fun h => by simp [h]) .inr⟩
    ·rcases Z26.1 hb with hb | hb
     ·have h := hM b (by simp [hb])
      exact ⟨Z54 h.1 hg.size, h.2, .inl (by simp [hb])⟩
     ·have h := hLn b hb
      exact ⟨Z54 h.1 hg.size, h.2.1, .inr (.inl hb)⟩
end Go.Ev
/- Each operation's step: append. -/
namespace Go.Ev
variable {Γ : TypeId → Type} {K : Cod Γ} {β : Type}
theorem Ro.toOwn {w : World} {A : Nat → Prop} {t : T Γ} {v : Value} (h : Ro K w A t v) (hp : t.plain = true) : Own K w A t v [] := by
 cases t with
 | int k n => cases h; exact .int _ _
 | bool b => cases h; exact .bool _
 | str s => cases h; exact .str _
 | sl own i e xs => cases own with
  | false => exact .ro h
  | true => cases hp
 | ptr own t cs => cases own with
  | false => exact .ptrRo h
  | true => cases hp
 | fn f caps => exact .fn h
theorem RoL.toOwn {w : World} {A : Nat → Prop} : ∀ {ts : List (T Γ)} {vs : List Value}, RoL K w A ts vs → (∀ t ∈ ts, t.plain = true) → OwnL K w A ts vs []
 | _, _, .nil, _ => .nil
 | _, _, .cons h k, hp => OwnL.cons (L := []) (h.toOwn (hp _ (by simp))) (k.toOwn fun t ht => hp t (by simp [ht]))
theorem Q40 {X : CodX K} {e : TypeId} {inner : Bool} (h : (!inner || X.flat e) = true) (xs : List (Γ e)) : ∀ t ∈ cells K inner e xs, t.plain = true := by
 intro t ht
 simp only [cells, List.mem_flatten, Z18] at ht
 obtain ⟨l, ⟨x, _, rfl⟩, ht⟩ := ht
 exact enc_plain h x t ht
theorem Q41 {X : CodX K} {e : TypeId} (h : X.flat e = true) (xs : List (Γ e)) (i j : Bool) : cells K i e xs = cells K j e xs := by
 have : ∀ i : Bool, K.enc e i = K.enc e false := by
  intro i; funext x; cases i with
  | false => rfl
  | true => exact X.flatOk e h x
 rw [cells, cells, this i, this j]
structure Src (K : Cod Γ) (w : World) (R : Rh Γ) (M : Nat → List Nat) (inner : Bool) (e : TypeId) (ys : List (Γ e)) (m : List Nat) (xv : Value) : Prop where
 ex : ∃ a cap news Ln, xv = .slice a ys.length cap ∧ OwnL K w R.A (cells K inner e ys) news Ln ∧ Ln.Nodup ∧ (∀ b ∈ Ln, ∃ q ∈ m, b ∈ M q) ∧ ∀ j u, news[j]? = some u → ∃ ad, a = some ad ∧ w.cell? (ad.add j) = some u
 live : ∀ q ∈ m, (R.loc q).live
theorem ro_src {c : Ctx Γ K β} {w : World} {R : Rh Γ} {M : Nat → List Nat} {inner i : Bool} {e : TypeId} {ys : List (Γ e)} {v : Value} (h : Ro K w R.A (.sl false i e ys) v) (hf : (c.X.flat e || (!inner && !i)) = true) : Src K w R M inner e ys [] v := by
 cases h with
 | sl hl hc hr hv =>
  subst hl
  have e1 : cells K i e ys = cells K inner e ys := by
   cases hfl : c.X.flat e with
   | true => exact Q41 hfl ys i inner
   | false => rw [hfl] at hf; simp at hf; rw [hf.1, hf.2]
  have hp : (!inner || c.X.flat e) = true := by
   cases hfl : c.X.flat e with
   | true => simp
   | false => rw [hfl] at hf; simp at hf; simp [hf.1]
  rw [e1] at hr
  exact ⟨⟨_, _, _, [], rfl, hr.toOwn (Q40 hp ys), Z71, by simp, fun j u hu => let ⟨ad, h1, _, h3⟩ := hv j u hu; ⟨ad, h1, h3⟩⟩, by simp⟩
theorem Q4J {α : Type _} (sz : Nat) : ∀ (k : Nat) (l : List α), l.length = k * sz → (chunks sz k l).flatten = l
 | 0, l, h => by have : l = [] := Z69 (by rw [h, Nat.zero_mul]); simp [chunks, this]
 | k + 1, l, h => by
  rw [chunks, Z44, Q4J sz k _ (by rw [Z19, h, Z66]; omega), Z82]
theorem chunks_len {α : Type _} (sz : Nat) : ∀ (k : Nat) (l : List α), (chunks sz k l).length = k
 | 0, _ => rfl
 | k + 1, l => by rw [chunks, Z2, chunks_len]
theorem chunks_vrs {w : World} {R : Rh Γ} (sz : Nat) : ∀ (k : Nat) {cs : List (AV Γ)} {vs : List Value}, VRL K w R cs vs → VRS K w R (chunks sz k cs) (chunks sz k vs)
 | 0, _, _, _ => .nil
 | k + 1, _, _, h => .cons (h.take sz) (chunks_vrs sz k (h.drop sz))
theorem toTs_len {loc : Nat → LV Γ} {inner : Bool} : ∀ {xss : List (List (AV Γ))} {tss : List (List (T Γ))} {m : List Nat}, toTs loc inner xss = some (tss, m) → tss.length = xss.length
 | [], _, _, h => by simp [toTs] at h; simp [h.1]
 | cs :: xss, tss, m, h => by
  simp only [toTs] at h
  split at h
  ·rename_i ts m1 tss' m2 h1 h2
   cases hC : (m1.all fun q => !(m2.contains q)) with
   | false => rw [hC] at h; cases h
   | true => rw [hC] at h; cases h; simp [toTs_len h2]
  ·cases h
theorem bif_some3 {α : Type _} {b : Bool} {x : Option α} {y : α} (h : (bif b then x else none) = some y) : b = true ∧ x = some y := by cases b with | false => cases h | true => exact ⟨rfl, h⟩
theorem toT_nodup {loc : Nat → LV Γ} {inner : Bool} : ∀ {cs : List (AV Γ)} {ts : List (T Γ)} {m : List Nat}, toT loc inner cs = some (ts, m) → m.Nodup
  | [], _, _, h => by simp [toT] at h; simp [h.2]
  | c :: cs, ts, m, h => by
    have ih : ∀ {ts m}, toT loc inner cs = some (ts, m) → m.Nodup := toT_nodup
    cases c <;> simp only [toT] at h <;> try (cases h; done)
    all_goals first
      | (split at h
         · rename_i ts' m' h1; cases h; exact ih h1
         · cases h)
      | (cases inner with
         | true => cases h
         | false =>
           simp only [cond_false] at h
           split at h
           · rename_i ts' m' h1; cases h; exact ih h1
           · cases h)
      | (split at h
         · rename_i g' i e xs ts' m' h1 h2
           replace h := bif_some3 h
           obtain ⟨hC, h⟩ := h
           cases h
           simp only [Z4, Bool.not_eq_true'] at hC
           refine Z78.2 ⟨fun hq => ?_, ih h2⟩
           have := hC.2
           rw [List.contains_iff_mem.2 hq] at this
           cases this
         · cases h)
theorem toTs_nodup {loc : Nat → LV Γ} {inner : Bool} : ∀ {xss : List (List (AV Γ))} {tss : List (List (T Γ))} {m : List Nat}, toTs loc inner xss = some (tss, m) → m.Nodup
 | [], _, _, h => by simp [toTs] at h; simp [h.2]
 | cs :: xss, tss, m, h => by
  simp only [toTs] at h
  split at h
  ·rename_i ts m1 tss' m2 h1 h2
   replace h := bif_some3 h
   obtain ⟨hC, h⟩ := h
   cases h
   refine Z33.2 ⟨toT_nodup h1, toTs_nodup h2, fun a ha b hb e => ?_⟩
   subst e
   have := Z49.1 hC a ha
   rw [List.contains_iff_mem.2 hb] at this
   cases this
  ·cases h
theorem Q4o {c : Ctx Γ K β} {loc : Nat → LV Γ} {r : Nat} {inner : Bool} {e : TypeId} {x : AV Γ} {kk : List (Γ e) → List Nat → Option β} {b : β} (h : Q28 c loc r inner e x kk = some b) :
  ∃ ys m, (∀ kk' : List (Γ e) → List Nat → Option β, Q28 c loc r inner e x kk' = kk' ys m) ∧ r ∉ m ∧ m.Nodup ∧ ∀ (w : World) (R : Rh Γ) (M : Nat → List Nat) (own : Nat → Option Nat) (mine : Nat → Prop) (xv : Value), R.loc = loc → Locs K w R M own mine → VR K w R x xv → Src K w R M inner e ys m xv := by
 unfold Q28 at h
 split at h
 ·rename_i i e' ys
  split at h
  ·rename_i he
   subst he
   cases hC : (c.X.flat e' || (!inner && !i)) with
   | false => rw [hC] at h; cases h
   | true =>
    refine ⟨ys, [], fun kk' => by simp only [Q28, hC]; rfl, by simp, Z71, fun w R M own mine xv hl hL hx => ?_⟩
    cases hx with
    | vs hro => exact ro_src hro hC
  ·cases h
 ·rename_i q g
  cases hq : loc q with
  | row g' i e' ys =>
   rw [hq] at h; simp only at h
   split at h
   ·rename_i he
    subst he
    cases hC : (g.beq g' && !(q.beq r) && (i == inner || c.X.flat e')) with
    | false => rw [hC] at h; cases h
    | true =>
     rw [hC] at h; simp only [cond_true] at h
     have hC' := hC
     simp only [Z4] at hC'
     obtain ⟨⟨hg, hqr⟩, hfl⟩ := hC'
     have hg := beq_eq hg
     subst hg
     have hqr : q ≠ r := fun e => by subst e; simp at hqr
     have main : ∀ (w : World) (R : Rh Γ) (M : Nat → List Nat) (own : Nat → Option Nat) (mine : Nat → Prop) (xv : Value), R.loc = loc → Locs K w R M own mine → VR K w R (.sl q g) xv →
       ∃ a cap news Ln, xv = .slice a ys.length cap ∧ OwnL K w R.A (cells K inner e' ys) news Ln ∧ Ln.Nodup ∧ (∀ b ∈ Ln, b ∈ M q) ∧ ∀ j u, news[j]? = some u → ∃ ad, a = some ad ∧ w.cell? (ad.add j) = some u := by
      intro w R M own mine xv hl hL hx
      cases hx with
      | sl hN hs h1 h2 =>
       have hv := h1 i e' ys (by rw [hl, hq])
       have hlr := hL.lr q
       have hnd := hL.nodup q (by rw [hl, hq]; trivial)
       rw [hl, hq] at hlr
       generalize hM : M q = Mq at hlr hnd
       rw [LR, ← hv] at hlr
       cases hlr with
       | sl hrow hl' =>
        rename_i vs L0
        have e1 : cells K i e' ys = cells K inner e' ys := by
         cases hff : c.X.flat e' with
         | true => exact Q41 hff ys i inner
         | false => rw [hff] at hfl; simp at hfl; rw [hfl]
        rw [e1] at hl'
        obtain ⟨a, cap, hh, hcap⟩ := Q30 hrow
        refine ⟨a, cap, vs, L0, hh, hl', (Z33.1 hnd).2.1, fun b hb => by simp [hb], fun j u hu => ?_⟩
        rcases hrow.2 with ⟨hn, h0⟩ | ⟨gb, cap', cur, hh', _⟩
        ·have := hrow.1
         rw [h0] at this
         have : vs = [] := Z69 (by simpa using this)
         rw [this] at hu; simp at hu
        ·rw [hh'] at hh
         cases hh
         refine ⟨_, rfl, ?_⟩
         rw [hh'] at hrow
         exact hrow.cells rfl j u hu
     cases hP : (inner && !(c.X.flat e')) with
     | true =>
      refine ⟨ys, [q], fun kk' => by simp only [Q28, hq, dif_pos]; rw [hC]; simp only [cond_true, hP], by simpa using hqr.symm, by simp, fun w R M own mine xv hl hL hx => ?_⟩
      obtain ⟨a, cap, news, Ln, k1, k2, k3, k4, k5⟩ := main w R M own mine xv hl hL hx
      exact ⟨⟨a, cap, news, Ln, k1, k2, k3, fun b hb => ⟨q, by simp, k4 b hb⟩, k5⟩, fun q' hq' => by rw [Z38.1 hq', hl, hq]; trivial⟩
     | false =>
      refine ⟨ys, [], fun kk' => by simp only [Q28, hq, dif_pos]; rw [hC]; simp only [cond_true, hP, cond_false], by simp, Z71, fun w R M own mine xv hl hL hx => ?_⟩
      obtain ⟨a, cap, news, Ln, k1, k2, k3, k4, k5⟩ := main w R M own mine xv hl hL hx
      have hp : (!inner || c.X.flat e') = true := by
       cases inner with
       | false => rfl
       | true => simpa using hP
      obtain ⟨k6, rfl⟩ := k2.shared (Q40 hp ys)
      exact ⟨⟨a, cap, news, [], k1, k2, k3, by simp, k5⟩, by simp⟩
   ·cases h
  | frow g' i e' ys =>
   rw [hq] at h; simp only at h
   split at h
   ·rename_i he
    subst he
    cases hC : (g.beq g' && (c.X.flat e' || (!inner && !i))) with
    | false => rw [hC] at h; cases h
    | true =>
     have hC' := hC
     rw [Z4] at hC'
     have hg := beq_eq hC'.1
     subst hg
     refine ⟨ys, [], fun kk' => by simp only [Q28, hq, dif_pos]; rw [hC]; rfl, by simp, Z71, fun w R M own mine xv hl hL hx => ?_⟩
     cases hx with
     | sl hN hs h1 h2 =>
      have hv := h2 i e' ys (by rw [hl, hq])
      have hlr := hL.lr q
      rw [hl, hq, LR, ← hv] at hlr
      exact ro_src hlr hC'.2
   ·cases h
  | _ => rw [hq] at h; cases h
 ·rename_i q g off len
  cases hq : loc q with
  | row g' i e' ys =>
   rw [hq] at h; simp only at h
   split at h
   ·rename_i he
    subst he
    cases hC : (g.beq g' && (c.X.flat e' || (!inner && !i))) with
    | false => rw [hC] at h; cases h
    | true =>
     have hC' := hC
     rw [Z4] at hC'
     obtain ⟨hg, hfl⟩ := hC'
     have hg := beq_eq hg
     subst hg
     have hpl : (!i || c.X.flat e') = true := by
      cases hff : c.X.flat e' with
      | true => simp
      | false => rw [hff] at hfl; simp at hfl; simp [hfl.2]
     have hci : cells K i e' ((ys.drop off).take len) = cells K inner e' ((ys.drop off).take len) := by
      cases hff : c.X.flat e' with
      | true => exact Q41 hff _ i inner
      | false => rw [hff] at hfl; simp at hfl; rw [hfl.1, hfl.2]
     have hpl2 : (!inner || c.X.flat e') = true := by
      cases hff : c.X.flat e' with
      | true => simp
      | false => rw [hff] at hfl; simp at hfl; simp [hfl.1]
     refine ⟨(ys.drop off).take len, [], fun kk' => by simp only [Q28, hq, dif_pos]; rw [hC]; rfl, by simp, Z71, fun w R M own mine xv hl hL hx => ?_⟩
     cases hx with
     | sv hN hc h1 =>
      rename_i a cap
      obtain ⟨hlen, hpos, _⟩ := h1 i e' ys (by rw [hl, hq])
      have hlr := hL.lr q
      rw [hl, hq] at hlr
      have hll : ((ys.drop off).take len).length = len := by rw [Z8, Z19]; omega
      generalize hh : R.hdr q = hd at hlr hpos
      generalize hM : M q = Mq at hlr
      cases hlr with
      | sl hrow hl' =>
       rename_i vs L0
       obtain ⟨hro, _⟩ := hl'.shared (Q40 (X := c.X) hpl ys)
       have hro2 := (hro.drop (off * K.sz e')).take (len * K.sz e')
       rw [← cells_drop, ← Q3V, hci] at hro2
       refine ⟨⟨a, cap, _, [], by rw [hll], hro2.toOwn (Q40 (X := c.X) hpl2 _), Z71, by simp, fun j u hu => ?_⟩, by simp⟩
       rw [Z55] at hu
       split at hu
       ·rename_i hj
        rw [Z61] at hu
        have hlp : 0 < len := by
         rcases Nat.eq_zero_or_pos len with h0 | h0
         ·subst h0; simp at hj
         ·exact h0
        obtain ⟨gb, n', cap', e1, rfl⟩ := hpos hlp
        subst e1
        refine ⟨_, rfl, ?_⟩
        rw [add_lit]
        have := hrow.cells rfl _ u hu
        rw [add_lit, Z25] at this
        exact this
       ·cases hu
   ·cases h
  | _ => rw [hq] at h; cases h
 ·rename_i e' k cs
  by_cases he : e' = e
  ·subst he
   rw [if_pos rfl] at h
   cases ht : toTs loc inner (chunks (K.sz e') k cs) with
   | none => rw [ht] at h; cases h
   | some tm =>
    obtain ⟨tss, m⟩ := tm
    rw [ht] at h; simp only at h
    cases hC : !(m.contains r) with
    | false => rw [hC] at h; cases h
    | true =>
     rw [hC] at h; simp only [cond_true] at h
     obtain ⟨ys, hd, hx⟩ := decs_sound h
     have hyl : ys.length = k := by rw [← Z1 (f := K.enc e' inner), hx, toTs_len ht, chunks_len]
     have hrm : r ∉ m := by simpa using hC
     refine ⟨ys, m, fun kk' => by simp only [Q28, if_true, ht, hC, cond_true]; exact hd _, hrm, ?_, fun w R M own mine xv hl hL hx' => ?_⟩
     ·exact toTs_nodup ht
     ·cases hx' with
      | lit hA hg hk hv =>
       rename_i g c
       have hvs := chunks_vrs (K.sz e') k hv
       obtain ⟨hO, hnd, hlive⟩ := toTs_sound hL hl hvs ht
       have hcl : c.toList.length = k * K.sz e' := by rw [← hv.length]; exact hk
       rw [Q4J _ _ _ hcl] at hO
       have hcells : cells K inner e' ys = tss.flatten := by rw [cells, hx]
       rw [← hcells] at hO
       obtain ⟨hfn, _⟩ := hL.flat m hnd hlive
       refine ⟨⟨some ⟨g, 0, none⟩, k, c.toList, m.flatMap M, by rw [hyl], hO, hfn, fun b hb => List.mem_flatMap.1 hb, fun j u hu => ⟨_, rfl, ?_⟩⟩, hlive⟩
       have hadd : (⟨g, 0, none⟩ : Addr).add j = ⟨g, j, none⟩ := by rw [add_lit, Z25]
       rw [hadd, cell_of_row w g j c _ (0, 0) hg]
       simpa using hu
  ·rw [if_neg he] at h; cases h
 ·cases h
theorem run_builtin_append {P : Program} {o : Oper} {cl : Call} {s x : Operand} {t : TypeId} (ho : o.op = .call cl) (hc : cl.callee = .builtin .append) (ha : cl.args.toList = [s, x]) (ht : cl.argTypes.toList = [t, t]) {ev : Operand → Value} {w w' : World} {v : Value}
  (h : (Builtin.append_ #[t, t] o.type #[ev s, ev x]).run P w = .ok v w') : (execOp ev o).run P w = .ok (.value v) w' := by
 have e1 : cl.args = #[s, x] := Array.toList_inj.1 ha
 have e2 : cl.argTypes = #[t, t] := Array.toList_inj.1 ht
 unfold execOp
 simp only [ho, resolve, hc, e1, e2, Z17, Z46, Z24, invoke, Go.builtin]
 have : (#[s, x].map ev : Array Value) = #[ev s, ev x] := by simp
 rw [this, h]; rfl
theorem appendOnto {P : Program} {c : Ctx Γ K β} (hty : TyOk P K c.X c.ty) {w0 : World} {L0 : Fm} {st : St Γ} {n : Nat} {o : Oper} {cl : Call} {s x : Operand} {t e : TypeId} (ho : o.op = .call cl) (hc : cl.callee = .builtin .append) (ha : cl.args.toList = [s, x]) (ht : cl.argTypes.toList = [t, t])
  (hE : c.elem t = some e) {inner : Bool} {xs ys : List (Γ e)} {ms m : List Nat} (hlim : limOk c e (xs.length + ys.length) = true)
  (hm : m.Nodup) (hms : ms.Nodup) (hdis : ∀ q ∈ ms, q ∉ m)
  (hS : ∀ (w : World) (R : Rh Γ) (M : Nat → List Nat) (own : Nat → Option Nat) (mine : Nat → Prop) (sv : Value), R.loc = st.loc → Locs K w R M own mine → VR K w R (st.ev s) sv → (∀ q ∈ ms, (R.loc q).live) ∧ Own K w R.A (.sl true inner e xs) sv (ms.flatMap M))
  (hX : ∀ (w : World) (R : Rh Γ) (M : Nat → List Nat) (own : Nat → Option Nat) (mine : Nat → Prop) (xv : Value), R.loc = st.loc → Locs K w R M own mine → VR K w R (st.ev x) xv → Src K w R M inner e ys m xv) :
  Q1V P K w0 L0 st n o ⟨.sl n 0, (n, .row 0 inner e (xs ++ ys)) :: kill (ms ++ m)⟩ := by
 refine Q2N fun R M own a w hx hf => ?_
 obtain ⟨hml, hO⟩ := hS w R M own _ _ hx.hl hx.locs (hx.ev s)
 obtain ⟨⟨ad, cap, news, Ln, e1, hN, hLnd, hLn, hcell⟩, hlive⟩ := hX w R M own _ _ hx.hl hx.locs (hx.ev x)
 obtain ⟨hfn, hfl⟩ := hx.locs.flat ms hms hml
 have hLown : ∀ b ∈ Ln, (∃ q ∈ m, own b = some q) ∧ b < w.heap.size ∧ mine w0 L0 b ∧ ¬ R.A b := fun b hb => by
  obtain ⟨q, hq, hbq⟩ := hLn b hb
  exact ⟨⟨q, hq, hx.locs.own q (hlive q hq) b hbq⟩, hx.locs.lt q (hlive q hq) b hbq⟩
 obtain ⟨h', w', L', hr, hO', hnd', hL', o1, o2, o3, hsz, hkeep, hsA⟩ := append_core hty (P := P) hE hlim hO hfn (fun b hb => ⟨(hfl b hb).2.1, (hfl b hb).2.2.2⟩) (fun b hb => hx.locs.alt b hb) hN hcell hLnd (fun b hb => ⟨(hLown b hb).2.1, (hLown b hb).2.2.2, fun hbm => by
  obtain ⟨⟨q, hq, ho⟩, _⟩ := hLown b hb
  obtain ⟨⟨q', hq', ho'⟩, _⟩ := hfl b hbm
  rw [ho] at ho'; cases ho'
  exact hdis q hq' hq⟩) (cp := cap) o.type
 have hmineL : ∀ b ∈ L', mine w0 L0 b := fun b hb => by
  rcases (hL' b hb).2.2 with h | h | h
  ·exact (hfl b h).2.2.1
  ·exact (hLown b h).2.2.1
  ·rw [h]; exact Q3g hx.fr
 have hkeep' : ∀ b, b < w.heap.size → (∀ q ∈ ms ++ m, own b ≠ some q) → w'.heap[b]? = w.heap[b]? := fun b hb hn => hkeep b hb fun hbm => by
  obtain ⟨⟨q, hq, ho⟩, _⟩ := hfl b hbm
  exact hn q (by simp [hq]) ho
 refine ⟨h', w', (killAll R (ms ++ m)).new n (.row 0 inner e (xs ++ ys)) h', _, _, .inl ?_, (Qh.killAll R (ms ++ m)).trans (Qh.new (R := killAll R (ms ++ m)) (hf n (Z7 _) (by omega)) _ _), hsA, ?_, fun r h => h.imp id (fun h => by omega),
  hx.locs.newRow (hf n (Z7 _) (by omega)) (ms ++ m) hO' hsA hsz hkeep' (fun b hb => ?_) hnd' (fun b hb => ⟨(hL' b hb).1, hmineL b hb, (hL' b hb).2.1⟩), hx.fr.step o1 o2 o3 (run_drawn _ _ _ _ hr) hsz (fun b hb hn => hkeep b hb fun hbm => hn (hfl b hbm).2.2.1), row_new _ _ _ _ _ _ (own_isSlice hO'), rfl⟩
 ·refine run_builtin_append ho hc ha ht ?_
  rw [e1]; exact hr
 ·rw [Q1L, ← hx.hl]; rfl
 ·rcases (hL' b hb).2.2 with h | h | h
  ·obtain ⟨⟨q, hq, ho⟩, _⟩ := hfl b h
   exact .inr ⟨q, by simp [hq], ho⟩
  ·obtain ⟨⟨q, hq, ho⟩, _⟩ := hLown b h
   exact .inr ⟨q, by simp [hq], ho⟩
  ·exact .inl (by omega)
theorem append_sound {P : Program} {c : Ctx Γ K β} (hty : TyOk P K c.X c.ty) {w0 : World} {L0 : Fm} {st : St Γ} {n : Nat} {o : Oper} {cl : Call} {s x : Operand} {t : TypeId} (ho : o.op = .call cl) (hc : cl.callee = .builtin .append) (ha : cl.args.toList = [s, x]) (ht : cl.argTypes.toList = [t, t])
  {kk : Act Γ → Option β} {b : β} (h : append c st n t (st.ev s) (st.ev x) kk = some b) : Q2h P K w0 L0 st n o (append c st n t (st.ev s) (st.ev x)) := by
 unfold append at h
 cases hs : st.ev s with
 | sl r g =>
  rw [hs] at h; simp only at h
  cases hr : st.loc r with
  | row g' inner e xs =>
   rw [hr] at h; simp only at h
   cases hC : (g.beq g' && (c.elem t == some e)) with
   | false => rw [hC] at h; cases h
   | true =>
    rw [hC] at h; simp only [cond_true] at h
    have hC' := hC
    rw [Z4] at hC'
    have hg := beq_eq hC'.1
    subst hg
    have hE : c.elem t = some e := by simpa using hC'.2
    obtain ⟨ys, m, he, hrm, hmn, hX⟩ := Q4o h
    rw [he] at h
    cases hlim : limOk c e (xs.length + ys.length) with
    | false => rw [hlim] at h; cases h
    | true =>
     refine ⟨_, fun kk' => by simp only [append, hr, hC, cond_true, he, hlim]; rfl, ?_⟩
     refine appendOnto (ms := [r]) hty ho hc ha ht hE hlim hmn (by simp) (by simpa using hrm) (fun w R M own mine sv hl hL hv => ?_) hX
     rw [hs] at hv
     cases hv with
     | sl hN hsl h1 h2 =>
      refine ⟨by simp [hl, hr]; trivial, ?_⟩
      have hlr := hL.lr r
      rw [hl, hr, LR] at hlr
      rw [h1 inner e xs (by rw [hl, hr])]
      simpa using hlr
  | _ => rw [hr] at h; cases h
 | nil =>
  rw [hs] at h; simp only at h
  cases hE : c.elem t with
  | none => rw [hE] at h; cases h
  | some e =>
   rw [hE] at h; simp only at h
   obtain ⟨ys, m, he, hrm, hmn, hX⟩ := Q4o h
   rw [he] at h
   cases hlim : limOk c e ys.length with
   | false => rw [hlim] at h; cases h
   | true =>
    refine ⟨_, fun kk' => by simp only [append, hE, cond_true, he, hlim]; rfl, ?_⟩
    refine appendOnto (ms := []) (xs := []) hty ho hc ha ht hE (by simpa using hlim) hmn (by simp) (by simp) (fun w R M own mine sv hl hL hv => ?_) hX
    rw [hs] at hv
    cases hv
    exact ⟨by simp, Own.sl (v := .slice none 0 0) (vs := []) (L := []) (World.ownsRow_nil w 0 e _) .nil⟩
 | _ => rw [hs] at h; cases h
end Go.Ev
/- Each operation's step: conversions, fields, small things. -/
namespace Go.Ev
variable {Γ : TypeId → Type} {K : Cod Γ} {β : Type}
theorem Q3H {X : CodX K} {e : TypeId} {k : IntKind} {f : Γ e → Int} (h : X.num e = some (k, f)) (i : Bool) (xs : List (Γ e)) : cells K i e xs = (xs.map f).map (T.int k) := by
 rw [cells]
 induction xs with
 | nil => rfl
 | cons x xs ih => rw [Z16, Z44, X.numOk e k f h, ih]; rfl
theorem num_sz {X : CodX K} {e : TypeId} {k : IntKind} {f : Γ e → Int} (h : X.num e = some (k, f)) (x : Γ e) : K.sz e = 1 := by
 rw [← K.len e true x, X.numOk e k f h]; rfl
theorem RoL.ints {w : World} {A : Nat → Prop} {k : IntKind} : ∀ {ns : List Int} {vs : List Value}, RoL K w A (ns.map (T.int k)) vs → vs = ns.map (Value.int k)
 | [], _, .nil => rfl
 | n :: ns, _, .cons h r => by cases h; rw [RoL.ints r]; rfl
theorem OwnL.ints {w : World} {A : Nat → Prop} {k : IntKind} : ∀ {ns : List Int} {vs : List Value} {L : List Nat}, OwnL K w A (ns.map (T.int k)) vs L → vs = ns.map (Value.int k)
 | [], _, _, .nil => rfl
 | n :: ns, _, _, .cons h r => by cases h; rw [OwnL.ints r]; rfl
def NumS (w : World) (k : IntKind) (ns : List Int) (v : Value) : Prop := ∃ a cap, v = .slice a ns.length cap ∧ ∀ j u, (ns.map (Value.int k))[j]? = some u → ∃ ad, a = some ad ∧ w.cell? (ad.add j) = some u
theorem ro_num {X : CodX K} {w : World} {A : Nat → Prop} {own i : Bool} {e : TypeId} {xs : List (Γ e)} {v : Value} {k : IntKind} {f : Γ e → Int} (h : X.num e = some (k, f)) (hr : Ro K w A (.sl own i e xs) v) : NumS w k (xs.map f) v := by
 cases hr with
 | sl hl hc hr hv =>
  subst hl
  rw [Q3H h] at hr
  have := hr.ints
  subst this
  exact ⟨_, _, by rw [Z1], fun j u hu => let ⟨ad, e1, _, e2⟩ := hv j u hu; ⟨ad, e1, e2⟩⟩
theorem own_num {X : CodX K} {w : World} {A : Nat → Prop} {i : Bool} {e : TypeId} {xs : List (Γ e)} {v : Value} {M : List Nat} {k : IntKind} {f : Γ e → Int} (h : X.num e = some (k, f)) (hr : Own K w A (.sl true i e xs) v M) : NumS w k (xs.map f) v := by
 cases hr with
 | sl hrow hl =>
  rw [Q3H h] at hl
  have := hl.ints
  subst this
  obtain ⟨a, cap, rfl, _⟩ := Q30 hrow
  refine ⟨a, cap, by rw [Z1], fun j u hu => ?_⟩
  rcases hrow.2 with ⟨hn, h0⟩ | ⟨gb, cap', cur, hh', _⟩
  ·rw [Z69 h0] at hu; simp at hu
  ·cases hh'
   exact ⟨_, rfl, hrow.cells rfl j u hu⟩
theorem bytesOf_sound {P : Program} {c : Ctx Γ K β} {loc : Nat → LV Γ} {t : TypeId} {x : AV Γ} {kk : List Int → Option β} {b : β} (h : bytesOf c loc t x kk = some b) :
  ∃ ns, (∀ kk' : List Int → Option β, bytesOf c loc t x kk' = kk' ns) ∧ ∀ (w : World) (R : Rh Γ) (M : Nat → List Nat) (own : Nat → Option Nat) (mine : Nat → Prop) (xv : Value), R.loc = loc → Locs K w R M own mine → VR K w R x xv → NumS w .u8 ns xv := by
 unfold bytesOf at h
 split at h
 ·rename_i i e xs
  split at h
  ·rename_i f hf
   cases hE : c.elemIs t e with
   | false => rw [hE] at h; cases h
   | true =>
    refine ⟨_, fun kk' => by simp only [bytesOf, hf, hE, cond_true]; rfl, fun w R M own mine xv hl hL hx => ?_⟩
    cases hx with
    | vs hro => exact ro_num hf hro
  ·cases h
 ·rename_i r g
  cases hr : loc r with
  | row g' i e xs =>
   rw [hr] at h; simp only at h
   split at h
   ·rename_i f hf
    cases hE : (g.beq g' && c.elemIs t e) with
    | false => rw [hE] at h; cases h
    | true =>
     refine ⟨_, fun kk' => by simp only [bytesOf, hr, hf, hE, cond_true]; rfl, fun w R M own mine xv hl hL hx => ?_⟩
     rw [Z4] at hE
     have hg := beq_eq hE.1
     subst hg
     cases hx with
     | sl hN hs h1 h2 =>
      have hlr := hL.lr r
      rw [hl, hr, LR, ← h1 i e xs (by rw [hl, hr])] at hlr
      exact own_num hf hlr
   ·cases h
  | frow g' i e xs =>
   rw [hr] at h; simp only at h
   split at h
   ·rename_i f hf
    cases hE : (g.beq g' && c.elemIs t e) with
    | false => rw [hE] at h; cases h
    | true =>
     refine ⟨_, fun kk' => by simp only [bytesOf, hr, hf, hE, cond_true]; rfl, fun w R M own mine xv hl hL hx => ?_⟩
     rw [Z4] at hE
     have hg := beq_eq hE.1
     subst hg
     cases hx with
     | sl hN hs h1 h2 =>
      have hlr := hL.lr r
      rw [hl, hr, LR, ← h2 i e xs (by rw [hl, hr])] at hlr
      exact ro_num hf hlr
   ·cases h
  | _ => rw [hr] at h; cases h
 ·rename_i r g off len
  cases hr : loc r with
  | row g' i e xs =>
   rw [hr] at h; simp only at h
   split at h
   ·rename_i f hf
    cases hE : (g.beq g' && c.elemIs t e) with
    | false => rw [hE] at h; cases h
    | true =>
     refine ⟨_, fun kk' => by simp only [bytesOf, hr, hf, hE, cond_true]; rfl, fun w R M own mine xv hl hL hx => ?_⟩
     rw [Z4] at hE
     have hg := beq_eq hE.1
     subst hg
     cases hx with
     | sv hN hc h1 =>
      rename_i a cap
      obtain ⟨hlen, hpos, _⟩ := h1 i e xs (by rw [hl, hr])
      have hlr := hL.lr r
      rw [hl, hr, LR] at hlr
      obtain ⟨a', cap', hh, hcell⟩ := own_num hf hlr
      have hll : (((xs.drop off).take len).map f).length = len := by rw [Z1, Z8, Z19]; omega
      refine ⟨a, cap, by rw [hll], fun j u hu => ?_⟩
      have hj : j < len := by
       rcases Z34 j len with h' | h'
       ·exact h'
       ·rw [Z21 (by rw [Z1, hll]; exact h')] at hu; cases hu
      obtain ⟨gb, n', c', e1, rfl⟩ := hpos (by omega)
      have hxs : 0 < xs.length := by omega
      have hs1 := num_sz hf xs[0]
      refine ⟨_, rfl, ?_⟩
      rw [e1] at hh; cases hh
      rw [hs1, Z83, add_lit]
      obtain ⟨ad, e2, e3⟩ := hcell (off + j) u (by
       rw [← hu]
       simp only [Z91, List.map_drop]
       rw [Z55, if_pos hj, Z61])
      cases e2
      rw [add_lit, Z25] at e3
      exact e3
   ·cases h
  | _ => rw [hr] at h; cases h
 ·cases h
theorem strOf_eq (ns : List Int) : ns.foldl (fun r n => r.push (UInt8.ofNat n.toNat)) ByteArray.empty = Q2a ns := by
 have : ∀ (ns : List Int) (b : ByteArray), ns.foldl (fun r n => r.push (UInt8.ofNat n.toNat)) b = ⟨b.data ++ (ns.map fun x => UInt8.ofNat x.toNat).toArray⟩ := by
  intro ns
  induction ns with
  | nil => intro b; simp
  | cons n ns ih => intro b; rw [List.foldl_cons, ih]; simp [ByteArray.push]
 rw [this]
 simp [Q2a]
theorem run_toString {P : Program} {w : World} {ns : List Int} {v : Value} (h : NumS w .u8 ns v) : (Conv.bytesToString v).run P w = .ok (.string (Q2a ns)) w := by
 obtain ⟨a, cap, rfl, hc⟩ := h
 cases a with
 | none =>
  cases ns with
  | nil => rfl
  | cons n ns => obtain ⟨ad, e, _⟩ := hc 0 (.int .u8 n) rfl; cases e
 | some ad =>
  have hl := run_loadCells_list (P := P) w ad (ns.map (Value.int .u8)) (fun j u hu => by obtain ⟨ad', e, h⟩ := hc j u hu; cases e; exact h)
  rw [Z1] at hl
  rw [run_bytesToString w ad ns.length cap ns hl, strOf_eq]
theorem isU8s_ty {P : Program} {c : Ctx Γ K β} (hty : TyOk P K c.X c.ty) {t : TypeId} (h : c.isU8s t = true) : ∃ e, P.underlying t = some (.slice e) ∧ P.underlying e = some (.int .u8) := by
 unfold Ctx.isU8s at h
 split at h
 ·rename_i e he
  split at h
  ·rename_i s b z hi
   exact ⟨e, (Q2w hty he).1, (hty _ _ hi).kind⟩
  ·cases h
 ·cases h
theorem convStr_sound {P : Program} {c : Ctx Γ K β} (hty : TyOk P K c.X c.ty) {w0 : World} {L0 : Fm} {st : St Γ} {n : Nat} {o : Oper} {src dst : TypeId} {x : Operand} (ho : o.op = .convert src dst x) {s b : Nat} {z : List Zc} (hd : c.ty dst = some ⟨.str, s, b, z⟩) (hs : c.isU8s src = true)
  {kk : Act Γ → Option β} {r : β} (h : bytesOf c st.loc src (st.ev x) (fun bs => kk ⟨.str (Q2a bs), []⟩) = some r) : Q2h P K w0 L0 st n o (fun kk => bytesOf c st.loc src (st.ev x) (fun bs => kk ⟨.str (Q2a bs), []⟩)) := by
 obtain ⟨ns, e, hv⟩ := bytesOf_sound (P := P) h
 refine ⟨⟨.str (Q2a ns), []⟩, fun kk' => e _, Q2l fun R M own a w hx => ⟨.string (Q2a ns), ?_, .str _⟩⟩
 obtain ⟨el, h1, h2⟩ := isU8s_ty hty hs
 have h3 : P.underlying dst = some .string := (hty _ _ hd).kind
 have hn := hv w R M own _ _ hx.hl hx.locs (hx.ev x)
 have hrun := run_toString (P := P) hn
 obtain ⟨ad, cap, e1, _⟩ := hn
 unfold execOp
 simp only [ho]
 refine Q1P ?_
 rw [e1] at hrun ⊢
 simp only [Go.convert, Z17, run_underlying h1, run_underlying h3, Z24, run_underlying h2]
 exact hrun
theorem convInt_sound {P : Program} {c : Ctx Γ K β} (hty : TyOk P K c.X c.ty) {w0 : World} {L0 : Fm} {st : St Γ} {n : Nat} {o : Oper} {src dst : TypeId} {x : Operand} (ho : o.op = .convert src dst x) {k k' : IntKind} {s b : Nat} {z : List Zc} (hd : c.ty dst = some ⟨.int k, s, b, z⟩) (hs : (c.ty src).isSome = true) {m : Int} (hx : st.ev x = .int k' m) :
  Q1V P K w0 L0 st n o ⟨.int k (k.wrap m), []⟩ := by
 refine Q2l fun R M own a w hsx => ⟨.int k (k.wrap m), ?_, .int _ _⟩
 have hv := hsx.ev x
 rw [hx] at hv
 have e : a.eval x = .int k' m := by generalize a.eval x = v at hv; cases hv; rfl
 have h3 : P.underlying dst = some (.int k) := (hty _ _ hd).kind
 obtain ⟨i, hi⟩ := Option.isSome_iff_exists.1 hs
 obtain ⟨d, h1⟩ : ∃ d, P.underlying src = some d := by
  have := (hty _ _ hi).kind
  cases hk : i.kind with
  | one => rw [hk] at this; obtain ⟨d, h1, _⟩ := this; exact ⟨d, h1⟩
  | bool => rw [hk] at this; exact ⟨_, this⟩
  | int k => rw [hk] at this; exact ⟨_, this⟩
  | str => rw [hk] at this; exact ⟨_, this⟩
  | sl e => rw [hk] at this; exact ⟨_, this.1⟩
  | agg fs => rw [hk] at this; obtain ⟨f, h, _⟩ := this; exact ⟨_, h⟩
 unfold execOp
 simp only [ho]
 refine Q1P ?_
 rw [e]
 simp only [Go.convert, Z17, run_underlying h1, run_underlying h3, Z24]
 rfl
theorem field_ty {P : Program} {c : Ctx Γ K β} (hty : TyOk P K c.X c.ty) {t : TypeId} {f off sz : Nat} {ag : Bool} (h : c.field t f = some (off, sz, ag)) : ∃ fields, P.underlying t = some (.struct fields) ∧ FieldOk P fields f off sz ag := by
 unfold Ctx.field at h
 split at h
 ·rename_i fs s b z hi
  obtain ⟨fields, h1, _, h2⟩ := (hty _ _ hi).kind
  exact ⟨fields, h1, h2 f off sz ag h⟩
 ·cases h
theorem run_fieldPlace {P : Program} {fields : Array Field} {f off sz : Nat} {ag : Bool} (h : FieldOk P fields f off sz ag) : ∃ fd, fields[f]? = some fd ∧ ∀ (a : Addr) (w : World), (fieldPlace a fd).run P w = .ok (a.add off) w := by
 obtain ⟨fd, h1, h2, ⟨i, h3, h4⟩, h5, _⟩ := h.ex
 refine ⟨fd, h1, fun a w => ?_⟩
 have : ¬ i.size = 0 := by rw [h4]; exact h5
 simp only [fieldPlace, Z17, Q32 h3, Z24, this, if_false, h2]
 rfl
theorem Q4p {P : Program} {c : Ctx Γ K β} (hty : TyOk P K c.X c.ty) {w0 : World} {L0 : Fm} {st : St Γ} {n : Nat} {o : Oper} {t : TypeId} {x : Operand} {f off sz : Nat} {ag : Bool} (ho : o.op = .fieldAddr t x f) (hf : c.field t f = some (off, sz, ag)) {v : AV Γ}
  (hv : (∃ b q, st.ev x = .ptr b q ∧ v = .ptr b (q + off)) ∨ (∃ r g i q, st.ev x = .er r g i q ∧ v = .er r g i (q + off)) ∨ (∃ cs, st.ev x = .vp cs ∧ v = .vp (cs.drop off))) :
  Q1V P K w0 L0 st n o ⟨v, []⟩ := by
 refine Q2l fun R M own a w hsx => ?_
 obtain ⟨fields, h1, h2⟩ := field_ty hty hf
 obtain ⟨fd, h3, h4⟩ := run_fieldPlace h2
 have run : ∀ ad, a.eval x = .pointer (some ad) → (execOp a.eval o).run P w = .ok (.value (.pointer (some (ad.add off)))) w := by
  intro ad e
  unfold execOp
  simp only [ho, e]
  refine Q1P ?_
  simp only [Instr.fieldAt, Z17, run_underlying h1, Z24, h3, Instr.sureAddr, Z46, h4]
 have hx := hsx.ev x
 rcases hv with ⟨b, q, e, rfl⟩ | ⟨r, g, i, q, e, rfl⟩ | ⟨cs, e, rfl⟩ <;> rw [e] at hx
 ·obtain ⟨g, hap, hN, hp⟩ := VR.ptr_inv hx
  refine ⟨_, run _ hap, ?_⟩
  rw [add_lit]
  exact .ptr hN hp
 ·obtain ⟨ad, hap, hN, hp⟩ := VR.er_inv hx
  refine ⟨_, run _ hap, .er hN fun j e xs hl => ?_⟩
  obtain ⟨h5, b, nn, cap, h6, rfl⟩ := hp j e xs hl
  exact ⟨h5, b, nn, cap, h6, by rw [add_lit, Z65]⟩
 ·generalize hap : a.eval x = xv at hx
  cases hx with
  | vp hro =>
   cases hro with
   | ptr hr hv =>
    refine ⟨_, run _ hap, .vp (.ptr (hr.drop off) fun j u hu => ?_)⟩
    rw [Z61] at hu
    rw [add_block, add_add]
    exact hv _ u hu
theorem run_part {P : Program} {fields : Array Field} {f off sz : Nat} {ag : Bool} (h : FieldOk P fields f off sz ag) {t : TypeId} (ht : P.underlying t = some (.struct fields)) (cs : Array Value) (w : World) :
  (ag = true → (Instr.field t (.agg cs) f).run P w = .ok (.agg (cs.extract off (off + sz))) w) ∧ (ag = false → ∀ v, cs[off]? = some v → (Instr.field t (.agg cs) f).run P w = .ok v w) := by
 obtain ⟨fd, h1, h2, ⟨i, h3, h4⟩, h5, d, h6, h7, h8⟩ := h.ex
 constructor
 ·intro ha
  obtain ⟨fs, rfl⟩ := h7.1 ha
  simp only [Instr.field, Z17, run_underlying ht, Z24, h1, asAgg, Z46, part, Q4I h6, if_true, Q32 h3, h2, h4]
 ·intro ha v hv
  have := run_isAgg_one (P := P) h6 (fun fs e => by rw [h7.2 ⟨fs, e⟩] at ha; cases ha) h8 w
  simp only [Instr.field, Z17, run_underlying ht, Z24, h1, asAgg, Z46, part, this, h2, hv]
  rfl
theorem extract_take {α : Type} (cs : Array α) (off sz : Nat) : (cs.extract off (off + sz)).toList = (cs.toList.drop off).take sz := by
 simp [Array.toList_extract, List.extract_eq_take_drop]
theorem field_sound {P : Program} {c : Ctx Γ K β} (hty : TyOk P K c.X c.ty) {w0 : World} {L0 : Fm} {st : St Γ} {n : Nat} {o : Oper} {t : TypeId} {x : Operand} {f off sz : Nat} {ag : Bool} (ho : o.op = .field t x f) (hf : c.field t f = some (off, sz, ag)) {cs : List (AV Γ)} (hx : st.ev x = .agg cs) {v : AV Γ}
  (hv : (ag = true ∧ v = .agg ((cs.drop off).take sz)) ∨ (ag = false ∧ cs[off]? = some v)) : Q1V P K w0 L0 st n o ⟨v, []⟩ := by
 refine Q2l fun R M own a w hsx => ?_
 obtain ⟨fields, h1, h2⟩ := field_ty hty hf
 have hxv := hsx.ev x
 rw [hx] at hxv
 generalize hap : a.eval x = xv at hxv
 cases hxv with
 | agg hvs =>
  rename_i vs
  have run := run_part (P := P) h2 h1 vs.toArray w
  have go : ∀ r, (Instr.field t (.agg vs.toArray) f).run P w = .ok r w → (execOp a.eval o).run P w = .ok (.value r) w := by
   intro r hr
   unfold execOp
   simp only [ho, hap]
   exact Q1P hr
  rcases hv with ⟨ha, rfl⟩ | ⟨ha, hc⟩
  ·refine ⟨_, go _ (run.1 ha), ?_⟩
   have := VR.agg ((hvs.drop off).take sz)
   rw [← Array.toArray_toList (xs := vs.toArray.extract off (off + sz)), extract_take]
   exact this
  ·obtain ⟨u, hu, hvr, _⟩ := hvs.get hc
   exact ⟨u, go _ (run.2 ha u (by simpa using hu)), hvr⟩
theorem Q4q {P : Program} {w0 : World} {L0 : Fm} {st : St Γ} {n : Nat} {o : Oper} {x : Operand} (ho : o.op = .nilCheck x) (hv : (∃ b q, st.ev x = .ptr b q) ∨ (∃ cs, st.ev x = .vp cs) ∨ ∃ r g i q, st.ev x = .er r g i q) : Q1V P K w0 L0 st n o ⟨st.ev x, []⟩ := by
 refine Q2l fun R M own a w hsx => ?_
 have hx := hsx.ev x
 have run : ∀ ad, a.eval x = .pointer (some ad) → (execOp a.eval o).run P w = .ok (.value (.pointer (some ad))) w := by
  intro ad e
  unfold execOp
  simp only [ho, e]
  rfl
 have key : ∃ ad, a.eval x = .pointer (some ad) := by
  rcases hv with ⟨b, q, e⟩ | ⟨cs, e⟩ | ⟨r, g, i, q, e⟩ <;> rw [e] at hx
  ·obtain ⟨g, hap, _⟩ := VR.ptr_inv hx; exact ⟨_, hap⟩
  ·generalize a.eval x = xv at hx
   cases hx with | vp h => cases h; exact ⟨_, rfl⟩
  ·obtain ⟨ad, hap, _⟩ := VR.er_inv hx; exact ⟨_, hap⟩
 obtain ⟨ad, e⟩ := key
 exact ⟨_, run ad e, by rw [← e]; exact hx⟩
theorem index_sound {P : Program} {c : Ctx Γ K β} (hty : TyOk P K c.X c.ty) {w0 : World} {L0 : Fm} {st : St Γ} {n : Nat} {o : Oper} {t : TypeId} {x i : Operand} (ho : o.op = .index t x i) (hS : c.isStr t = true) {s : ByteArray} {k : IntKind} {j : Int} (hx : st.ev x = .str s) (hi : st.ev i = .int k j) {b : UInt8} (hb : at? s.data.toList j = some b) :
  Q1V P K w0 L0 st n o ⟨.int .u8 b.toNat, []⟩ := by
 refine Q2l fun R M own a w hsx => ⟨.int .u8 b.toNat, ?_, .int _ _⟩
 have h1 := hsx.ev x
 have h2 := hsx.ev i
 rw [hx] at h1
 rw [hi] at h2
 have e1 : a.eval x = .string s := by generalize a.eval x = v at h1; cases h1; rfl
 have e2 : a.eval i = .int k j := by generalize a.eval i = v at h2; cases h2; rfl
 obtain ⟨h0, hlt, hg⟩ := at?_some hb
 unfold execOp
 simp only [ho, e1, e2]
 refine Q1P ?_
 have hsz : j.toNat < s.size := by
  have : s.size = s.data.toList.length := by simp
  omega
 have hgb : s[j.toNat]? = some b := by
  rw [getElem?_pos s j.toNat hsz]
  simp only [Array.getElem?_toList] at hg
  rw [← hg]
  have : j.toNat < s.data.size := hsz
  rw [Z79 this]
  rfl
 simp only [Instr.index, asIntOf, Z17, Z46, Z24, run_underlying (isStr_ty hty hS), h0, if_true, hgb]
theorem extract_sound {P : Program} {w0 : World} {L0 : Fm} {st : St Γ} {n : Nat} {o : Oper} {x : Operand} {i : Nat} (ho : o.op = .extract x i) {vs : List (AV Γ)} (hx : st.ev x = .tup vs) {v : AV Γ} (hv : vs[i]? = some v) : Q1V P K w0 L0 st n o ⟨v, []⟩ := by
 refine Q2l fun R M own a w hsx => ?_
 have hxv := hsx.ev x
 rw [hx] at hxv
 generalize hap : a.eval x = xv at hxv
 cases hxv with
 | tup hvs =>
  obtain ⟨u, hu, hvr⟩ := hvs.get hv
  refine ⟨u, ?_, hvr⟩
  unfold execOp
  simp only [ho, hap]
  refine Q1P ?_
  simp [Instr.extract, hu]
theorem makeFunc_sound {P : Program} {w0 : World} {L0 : Fm} {st : St Γ} {n : Nat} {o : Oper} {f : FuncId} {first captured : Array Operand} (ho : o.op = .makeFunc (.func f) first captured) (hf : first.isEmpty = true) (hc : (captured.toList.map st.ev).all (fun v => match v with | .undef => false | .agg _ => false | .tup _ => false | _ => true) = true) :
  Q1V P K w0 L0 st n o ⟨.fn f (captured.toList.map st.ev), []⟩ := by
 refine Q2l fun R M own a w hsx => ?_
 have h0 : first = #[] := by simpa using hf
 refine ⟨.func (.func f) #[] (captured.toList.map a.eval).toArray, ?_, .fn ?_⟩
 ·unfold execOp
  simp only [ho, h0]
  refine Q1P ?_
  have : captured.map a.eval = (captured.toList.map a.eval).toArray := by rw [← Array.toList_map, Array.toArray_toList]
  rw [this, show (Array.map a.eval #[] : Array Value) = #[] by simp]; rfl
 ·have : ∀ xs : List Operand, (xs.map st.ev).all (fun v => match v with | .undef => false | .agg _ => false | .tup _ => false | _ => true) = true → VRL K w R (xs.map st.ev) (xs.map a.eval) := by
   intro xs
   induction xs with
   | nil => intro _; exact .nil
   | cons x xs ih =>
    intro h
    rw [Z16, Z97, Z4] at h
    refine .cons (hsx.ev x) ?_ (ih h.2)
    have hv := hsx.ev x
    revert hv
    generalize a.eval x = v
    cases hx : st.ev x with
    | agg cs => rw [hx] at h; simp at h
    | tup cs => rw [hx] at h; simp at h
    | undef => rw [hx] at h; simp at h
    | vs i e xs => intro hv; cases hv with | vs h => exact h.one
    | vp cs => intro hv; cases hv with | vp h => exact h.one
    | sl r g => intro hv; cases hv with | sl hN hs h1 h2 => obtain ⟨_, _, _, rfl⟩ := hs; rfl
    | _ => intro hv; cases hv; rfl
  exact this _ hc
end Go.Ev
