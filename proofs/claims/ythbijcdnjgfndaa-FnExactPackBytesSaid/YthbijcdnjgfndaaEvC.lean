/- A verified evaluator of function bodies, part 3: definitions and their soundness. -/
import Derived.Carry
import Derived.IntWalk
import Derived.Test.YthbijcdnjgfndaaEvB
set_option linter.unusedVariables false
set_option linter.unusedSimpArgs false
/- A law: its arguments read as data; it returns true; what was there stays. -/
namespace Go.Ev
variable {l : Table}

/-! #### shapes of a law's arguments -/
def ctOf (l : Table) : Cl → CT
  | .int k => .int k
  | .bool => .bool
  | .str => .str
  | .sl _ _ e => .sl e (tabOf l e)
def notOwn : Cl → Bool
  | .sl o i _ => !o && !i
  | _ => true
def goodCl (l : Table) : (s : Cl) → s.ty l → Prop
  | .int k, n => (Lit.int k n).wf = true
  | .bool, _ => True
  | .str, s => ByteArray.size s ≤ maxLen
  | .sl _ _ e, xs => AllP (α := Tup (tabOf l e)) (allL (goodC 4) (tabOf l e)) xs
section
variable {α : Type} {B : Type}
def goodPC (ty : α → Type) (Q : (s : α) → ty s → Prop) (A : Type) (q : A → Prop) : (ss : List α) → PrC ty A ss → Prop
  | [], x => q x
  | s :: ss, (x, y) => q x ∧ goodPC ty Q (ty s) (Q s) ss y
def goodP (ty : α → Type) (Q : (s : α) → ty s → Prop) : (ss : List α) → Pr ty ss → Prop
  | [], _ => True
  | s :: ss, x => goodPC ty Q (ty s) (Q s) ss x
inductive AllOf (ty : α → Type) (e : (s : α) → ty s → B) (Q : (s : α) → ty s → Prop) : List α → List B → Prop
  | nil : AllOf ty e Q [] []
  | cons {s ss b bs} (y : ty s) (he : e s y = b) (hq : Q s y) (k : AllOf ty e Q ss bs) : AllOf ty e Q (s :: ss) (b :: bs)
theorem prC_ex {ty : α → Type} {e : (s : α) → ty s → B} {Q : (s : α) → ty s → Prop} : ∀ (ss : List α) (bs : List B), AllOf ty e Q ss bs → ∀ (A : Type) (f : A → B) (q : A → Prop) (a : A), q a → ∃ x : PrC ty A ss, encPC ty e A f ss x = f a :: bs ∧ goodPC ty Q A q ss x
  | [], _, .nil, A, f, q, a, h => ⟨a, rfl, h⟩
  | s :: ss, _, .cons y he hq k, A, f, q, a, h => by
    obtain ⟨x, h1, h2⟩ := prC_ex ss _ k (ty s) (e s) (Q s) y hq
    refine ⟨((a, x) : A × PrC ty (ty s) ss), ?_, h, h2⟩
    show f a :: encPC ty e (ty s) (e s) ss x = _
    rw [h1, he]
theorem pr_ex {ty : α → Type} {e : (s : α) → ty s → B} {Q : (s : α) → ty s → Prop} : ∀ (ss : List α) (bs : List B), AllOf ty e Q ss bs → ∃ x : Pr ty ss, encP ty e ss x = bs ∧ goodP ty Q ss x
  | [], _, .nil => ⟨(), rfl, trivial⟩
  | s :: ss, _, .cons y he hq k => by
    obtain ⟨x, h1, h2⟩ := prC_ex ss _ k (ty s) (e s) (Q s) y hq
    exact ⟨x, by rw [← he]; exact h1, h2⟩
end

theorem eqL_self : ∀ (a b : List CT), a = b → ∃ h, eqL a b = some h := by
  have key : ∀ n, (∀ c : CT, SizeOf.sizeOf c < n → ∃ h, eqC c c = some h) ∧ (∀ cs : List CT, SizeOf.sizeOf cs < n → ∃ h, eqL cs cs = some h) := by
    intro n
    induction n with
    | zero => exact ⟨fun c h => absurd h (Nat.not_lt_zero _), fun c h => absurd h (Nat.not_lt_zero _)⟩
    | succ n ih =>
      refine ⟨fun c hc => ?_, fun cs hc => ?_⟩
      · cases c with
        | int k => exact ⟨⟨rfl⟩, by simp only [eqC]; rfl⟩
        | bool => exact ⟨⟨rfl⟩, by simp only [eqC]⟩
        | str => exact ⟨⟨rfl⟩, by simp only [eqC]⟩
        | sl e cs =>
          obtain ⟨h, hh⟩ := ih.2 cs (by simp only [CT.sl.sizeOf_spec] at hc; omega)
          obtain ⟨h⟩ := h
          exact ⟨⟨rfl⟩, by simp only [eqC, hh]; rfl⟩
      · cases cs with
        | nil => exact ⟨⟨rfl⟩, by simp only [eqL]⟩
        | cons c cs =>
          simp only [List.cons.sizeOf_spec] at hc
          obtain ⟨h, hh⟩ := ih.1 c (by omega)
          obtain ⟨k, hk⟩ := ih.2 cs (by omega)
          obtain ⟨h⟩ := h
          obtain ⟨k⟩ := k
          exact ⟨⟨rfl⟩, by simp only [eqL, hh, hk]⟩
  intro a b hab
  subst hab
  exact (key (SizeOf.sizeOf a + 1)).2 a (Nat.lt_succ_self _)

theorem cl_of : ∀ (s : Cl), notOwn s = true → ∀ (y : (ctOf l s).ty), (∀ d, goodC d (ctOf l s) y) → ∃ z : s.ty l, encCl l s z = encC l false (ctOf l s) y ∧ goodCl l s z
  | .int k, _, y, h => ⟨y, rfl, h 0⟩
  | .bool, _, y, h => ⟨y, rfl, trivial⟩
  | .str, _, y, h => ⟨y, rfl, h 0⟩
  | .sl o i e, hn, y, h => by
    simp only [notOwn, Bool.and_eq_true, Bool.not_eq_true'] at hn
    obtain ⟨rfl, rfl⟩ := hn
    refine ⟨(y : List (Tup (tabOf l e))), ?_, h 5⟩
    obtain ⟨hh, hq⟩ := eqL_self (tabOf l e) (tabOf l e) rfl
    obtain ⟨hh⟩ := hh
    simp only [ctOf, encC, hq]
    rfl
theorem clsR_of : ∀ (ss : List Cl), ss.all notOwn = true → ∀ (s : Cl), notOwn s = true → ∀ (y : TupC (ctOf l s).ty (ss.map (ctOf l))), (∀ d, allR (goodC d) (ss.map (ctOf l)) (ctOf l s) y) → AllOf (Cl.ty l) (encCl l) (goodCl l) (s :: ss) (encR l false (ctOf l s) (ss.map (ctOf l)) y)
  | [], _, s, hs, y, h => by
    obtain ⟨z, h1, h2⟩ := cl_of s hs y h
    exact .cons z h1 h2 .nil
  | s' :: ss, hn, s, hs, (y, ys), h => by
    rw [List.all_cons, Bool.and_eq_true] at hn
    obtain ⟨z, h1, h2⟩ := cl_of s hs y (fun d => (h d).1)
    exact .cons z h1 h2 (clsR_of ss hn.2 s' hn.1 ys fun d => (h d).2)
theorem cls_of : ∀ (ss : List Cl), ss.all notOwn = true → ∀ (y : Tup (ss.map (ctOf l))), goodL (ss.map (ctOf l)) y → AllOf (Cl.ty l) (encCl l) (goodCl l) ss (encL l false (ss.map (ctOf l)) y)
  | [], _, _, _ => .nil
  | s :: ss, hn, y, h => by
    rw [List.all_cons, Bool.and_eq_true] at hn
    exact clsR_of ss hn.2 s hn.1 y h

def goodV (l : Table) : (s : VSh) → s.ty l → Prop
  | .one (.b (.b (.b (.b c)))), y => goodCl l c y
  | .one _, _ => True
  | .agg ss, y => goodP (Cl.ty l) (goodCl l) ss y
abbrev goodA (l : Table) (as : List VSh) (x : Args l as) : Prop := goodP (VSh.ty l) (goodV l) as x

def argB (P : Program) (l : Table) (t : TypeId) : VSh → Bool
  | .one (.b (.b (.b (.b c)))) => notOwn c && rdB P l 40 t [ctOf l c] && match P.underlying t with | some .bool => true | some (.int _) => true | some .string => true | some (.slice _) => true | _ => false
  | .agg ss => ss.all notOwn && rdB P l 40 t (ss.map (ctOf l)) && match P.underlying t with | some (.struct _) => true | _ => false
  | _ => false
def argsB (P : Program) (l : Table) : List TypeId → List VSh → Bool
  | [], as => match as with | [] => true | _ => false
  | t :: ts, as => match as with | a :: as => argB P l t a && argsB P l ts as | [] => false

section
variable {H : Type} {enc : TypeId × Value → H} {P : Program} {w : World} {spare : Nat → Bool} {held : Bool}

theorem ro_own {K : Cod (GT l)} {A : Nat → Prop} {t : T (GT l)} {v : Value} (h : Ro K w A t v) (hp : t.plain = true) : Own K w A t v [] := by
  cases h with
  | int k n => exact .int k n
  | bool b => exact .bool b
  | str s => exact .str s
  | @sl own inner e xs a n cap vs h1 h2 h3 h4 =>
    cases own with
    | true => cases hp
    | false => exact .ro (.sl h1 h2 h3 h4)
  | @ptr own t cs a vs h1 h2 =>
    cases own with
    | true => cases hp
    | false => exact .ptrRo (.ptr h1 h2)
  | fn h => exact .fn (.fn h)
theorem roL_own {K : Cod (GT l)} {A : Nat → Prop} : ∀ {ts : List (T (GT l))} {vs : List Value}, RoL K w A ts vs → (∀ t ∈ ts, t.plain = true) → OwnL K w A ts vs []
  | _, _, .nil, _ => .nil
  | _, _, .cons h k, hp => OwnL.cons (L := []) (ro_own h (hp _ (by simp))) (roL_own k fun t ht => hp t (by simp [ht]))

theorem one_cells {r : Reach} {base : Nat} {t : TypeId} {v : Value} (hk : Value.okWide P w r base t v) (h : (match P.underlying t with | some .bool => true | some (.int _) => true | some .string => true | some (.slice _) => true | _ => false) = true) : v.cells.toList = [v] := by
  unfold Value.okWide at hk
  split at h
  · rename_i hu; rw [hu] at hk; cases v <;> simp_all [Cell.okWide, Cell.ok, Value.cells]
  · rename_i hu; rw [hu] at hk; cases v <;> simp_all [Cell.okWide, Cell.ok, Value.cells]
  · rename_i hu; rw [hu] at hk; cases v <;> simp_all [Cell.okWide, Cell.ok, Value.cells]
  · rename_i hu; rw [hu] at hk; cases v <;> simp_all [Cell.okWide, Cell.ok, Value.cells]
  · cases h

theorem arg_read (A : Nat → Prop) (hA : ∀ b, b < w.heap.size → A b) {t : TypeId} {s : VSh} (hb : argB P l t s = true) {r : Reach} {base : Nat} {v : Value} {d : DataW H} {ps : List MemPlace} (h : DataW.Trod enc P w 0 spare held t v d ps) (hk : Value.okWide P w r base t v) :
    ∃ y : s.ty l, TvR (KT l) w A (encV l s y) v [] ∧ goodV l s y := by
  obtain ⟨fuel, hf⟩ := h
  match s, hb with
  | .one (.b (.b (.b (.b c)))), hb =>
    simp only [argB, Bool.and_eq_true] at hb
    obtain ⟨⟨h1, h2⟩, h3⟩ := hb
    obtain ⟨y, hy1, hy2⟩ := (read_el A hA 40).1 t _ h2 fuel _ _ hf
    rw [one_cells hk h3] at hy1
    obtain ⟨z, hz1, hz2⟩ := cl_of c h1 y hy2
    refine ⟨z, ?_, hz2⟩
    obtain ⟨u, hu, hr⟩ := RoL.inv1.1 hy1
    obtain rfl : v = u := by simpa using hu
    show TvR (KT l) w A (.one (encCl l c z)) v []
    rw [hz1]
    exact .one (ro_own hr (plainC _ y))
  | .agg ss, hb =>
    simp only [argB, Bool.and_eq_true] at hb
    obtain ⟨⟨h1, h2⟩, h3⟩ := hb
    obtain ⟨y, hy1, hy2⟩ := (read_el A hA 40).1 t _ h2 fuel _ _ hf
    obtain ⟨z, hz1, hz2⟩ := pr_ex ss _ (cls_of ss h1 y hy2)
    refine ⟨z, ?_, hz2⟩
    split at h3
    · rename_i fs hu
      unfold Value.okWide at hk
      rw [hu] at hk
      obtain ⟨cs, rfl, _, _⟩ := hk
      show TvR (KT l) w A (.agg (encP (Cl.ty l) (encCl l) ss z)) (.agg cs) []
      rw [hz1]
      have := roL_own hy1 (plainLE _ y)
      have := TvR.agg this
      simpa [Value.cells] using this
    · cases h3

theorem args_read (A : Nat → Prop) (hA : ∀ b, b < w.heap.size → A b) {r : Reach} {base : Nat} : ∀ {ts : List TypeId} {as : List VSh}, argsB P l ts as = true → ∀ {vs : List Value} {ds : List (DataW H)} {ps : List MemPlace}, DataW.TrodAll enc P w 0 spare held ts vs ds ps → (∀ (j : Nat) t v, ts[j]? = some t → vs[j]? = some v → Value.okWide P w r base t v) →
    ∃ bs, AllOf (VSh.ty l) (encV l) (goodV l) as bs ∧ TvRs (KT l) w A bs vs []
  | [], as, hb, vs, ds, ps, h, hk => by
    cases as with
    | cons => cases hb
    | nil =>
      cases vs with
      | cons => exact h.elim
      | nil => exact ⟨[], .nil, .nil⟩
  | t :: ts, as, hb, vs, ds, ps, h, hk => by
    cases as with
    | nil => cases hb
    | cons a as =>
      simp only [argsB, Bool.and_eq_true] at hb
      cases vs with
      | nil => exact h.elim
      | cons v vs =>
        cases ds with
        | nil => exact h.elim
        | cons d ds =>
          obtain ⟨p, q, h1, h2, _⟩ := h
          obtain ⟨y, hy1, hy2⟩ := arg_read A hA hb.1 h1 (hk 0 t v rfl rfl)
          obtain ⟨bs, hb1, hb2⟩ := args_read A hA hb.2 h2 fun j t v h h' => hk (j + 1) t v (by simpa using h) (by simpa using h')
          exact ⟨_, .cons y rfl hy2 hb1, TvRs.cons (L := []) hy1 hb2⟩
end

theorem trod_length {H : Type} {enc : TypeId × Value → H} {P : Program} {w : World} {base : Nat} {spare : Nat → Bool} {held : Bool} : ∀ {ts : List TypeId} {vs : List Value} {ds : List (DataW H)} {ps : List MemPlace}, DataW.TrodAll enc P w base spare held ts vs ds ps → ds.length = ts.length
  | [], [], [], _, _ => rfl
  | [], [], _ :: _, _, h => h.elim
  | [], _ :: _, _, _, h => h.elim
  | _ :: _, [], _, _, h => h.elim
  | _ :: _, _ :: _, [], _, h => h.elim
  | _ :: _, _ :: _, _ :: _, _, h => by
    obtain ⟨p, q, _, h2, _⟩ := h
    simp [trod_length h2]
def readB (P : Program) (ts : List TypeId) : Bool := ts.all fun t => P.readableRec t && Nat.blt t P.types.size
theorem back_all {H : Type} {enc : TypeId × Value → H} {P : Program} (hl : laidOutB P = true) {W W' : World} (hb : Go.RowKit.Below W.heap.size W W') : ∀ {ts : List TypeId}, readB P ts = true → ∀ {vs : List Value} {ds : List (DataW H)} {ps : List MemPlace}, DataW.TrodAll enc P W 0 (fun _ => true) true ts vs ds ps → DataW.TrodAll enc P W' 0 (fun b => decide (b < W.heap.size)) true ts vs ds ps
  | [], _, [], [], ps, h => h
  | [], _, [], _ :: _, ps, h => h.elim
  | [], _, _ :: _, _, ps, h => h.elim
  | t :: ts, hr, [], _, ps, h => h.elim
  | t :: ts, hr, _ :: _, [], ps, h => h.elim
  | t :: ts, hr, v :: vs, d :: ds, ps, h => by
    obtain ⟨p, q, h1, h2, h3⟩ := h
    simp only [readB, List.all_cons, Bool.and_eq_true] at hr
    have hlt : ∀ x ∈ p, x.block < W.heap.size := by obtain ⟨m, hm⟩ := h1; exact DataW.trod_lt m _ _ _ hm
    exact ⟨p, q, Go.RowKit.Below.trod hl hr.1.1 (by simpa [Nat.blt_eq] using hr.1.2) h1 hb hlt, back_all hl hb hr.2 h2, h3⟩

section
variable {P : Program} {H : Type} {enc : TypeId × Value → H}
/-- The call of a law. -/
theorem law_calls {modes : List Mode} {as : List VSh} {r : RSh} {c : Ctx (GT l) (KT l) (ResT l r)} (hmx : P.follows .mixedOrders = true) (hty : TyOk P (KT l) c.X c.ty) (hG : ∀ f cal, c.G f = some cal → Con P (KT l) f cal) {f : FuncId} {fn : Func} {body : Code} (hf : FnOk P f fn modes body) (hk : c.keep = keepOf 0 modes) (hm : modes.length = as.length)
    {F : Args l as → Option (ResT l r)} (hF : ∀ x, F x = callW c (fiOf (GT l) fn modes) body (decRes l r) (encArgs l as x)) (hlaw : ∀ x, goodA l as x → ∃ y, F x = some y ∧ (encRes l r y).1 = TV.one (T.bool true)) (hb : argsB P l fn.params.toList as = true)
    {W : World} {reach : Reach} {base : Nat} {args : Array Value} {ds : List (DataW H)} {ps : List MemPlace} {spare : Nat → Bool} {held : Bool} (hval : ∀ (j : Nat) t v, fn.params[j]? = some t → args[j]? = some v → Value.okWide P W reach base t v) (hA : DataW.TrodAll enc P W 0 spare held fn.params.toList args.toList ds ps) :
    Calls P f args W fun e W' => e = .returned (.bool true) ∧ Go.RowKit.Below W.heap.size W W' := by
  obtain ⟨bs, h1, h2⟩ := args_read (l := l) (fun b => b < W.heap.size) (fun _ h => h) hb hA (fun j t v h h' => hval j t v (by simpa using h) (by simpa using h'))
  obtain ⟨x, hx1, hx2⟩ := pr_ex as bs h1
  obtain ⟨y, hy1, hy2⟩ := hlaw x hx2
  rw [hF] at hy1
  have hT : TvRs (KT l) W (fun b => b < W.heap.size) (encArgs l as x) args.toList [] := by rw [show encArgs l as x = bs from hx1]; exact h2
  have := calls_of (fi := fiOf (GT l) fn modes) hmx hty hG hf.func hf.name hf.body rfl rfl (fun i hi => by rw [hk]; have := keepOf_mem modes 0 i hi; rwa [Nat.zero_add] at this) hy1 (by show modes.length = _; rw [args_len]; exact hm) hT List.nodup_nil (by simp) (fun b h => h)
  rw [Array.toArray_toList] at this
  refine Calls.mono this fun e W' he => ?_
  obtain ⟨v, r', rfl, hd, hp⟩ := he
  refine ⟨?_, hp.os, hp.tape, hp.output, hp.size, fun b hb => hp.block b hb (by simp)⟩
  obtain ⟨A', Lr, Lk, _, _, hr, _⟩ := hp.ex
  rw [← decRes_ok r r' y hd, hy2] at hr
  cases hr with
  | one hr => cases hr with | one hr => cases hr; rfl
end
end Go.Ev

/- Plain words for what the evaluator prints: indices, loops over lists, numbers that fit. -/
namespace Go.Ev
open Go

theorem at?_nat {α : Type} (xs : List α) (i : Nat) : at? xs (i : Int) = xs[i]? := by simp [at?]
theorem at?_lt {α : Type} (xs : List α) (i : Nat) (h : i < xs.length) : at? xs (i : Int) = some xs[i] := by rw [at?_nat, List.getElem?_eq_getElem h]
theorem at?_zero {α : Type} (xs : List α) : at? xs 0 = xs[0]? := by simp [at?]
theorem at?_int {α : Type} (xs : List α) (i : Int) (h0 : 0 ≤ i) : at? xs i = xs[i.toNat]? := by simp [at?, h0]
theorem wrapI {x : Int} (h1 : -9223372036854775808 ≤ x) (h2 : x ≤ 9223372036854775807) : IntKind.i64.wrap x = x := IntWalk.i64_in x ⟨h1, h2⟩
theorem wrapU {x : Int} (h1 : 0 ≤ x) (h2 : x ≤ 18446744073709551615) : IntKind.u64.wrap x = x := IntWalk.u64_in x ⟨h1, h2⟩
theorem wrapB {x : Int} (h1 : 0 ≤ x) (h2 : x ≤ 255) : IntKind.u8.wrap x = x := IntWalk.u8_in x ⟨h1, h2⟩
theorem wrapS (i : Nat) (h : i < 4611686018427387904) : IntKind.i64.wrap ((i : Int) + 1) = ((i + 1 : Nat) : Int) := by
  rw [wrapI (by omega) (by omega)]; rfl
theorem wrapUn {z : Nat} (h : z < 2 ^ 64) : IntKind.u64.wrap (z : Int) = z := wrapU (by omega) (by omega)
theorem wrapIn {z : Nat} (h : z < 2 ^ 63) : IntKind.i64.wrap (z : Int) = z := wrapI (by omega) (by omega)
theorem wrapBn {z : Nat} (h : z < 256) : IntKind.u8.wrap (z : Int) = z := wrapB (by omega) (by omega)
theorem both_self {β : Type} (a : Option β) : both a a = a := by simp [both]

theorem drop_eq {α : Type} {xs : List α} {i : Nat} {x : α} (h : xs[i]? = some x) : xs.drop i = x :: xs.drop (i + 1) := by
  obtain ⟨hi, rfl⟩ := List.getElem?_eq_some_iff.1 h
  exact List.drop_eq_getElem_cons hi

/-- A loop over the indices of a list, as a walk down the list. -/
theorem loop_drop {α β γ : Type} (xs : List α) (F : Int → β → γ) (G : List α → β → γ) (hnil : ∀ acc, F (xs.length : Int) acc = G [] acc)
    (hcons : ∀ (i : Nat) (x : α) (acc : β), xs[i]? = some x → i < xs.length → (∀ acc', F ((i + 1 : Nat) : Int) acc' = G (xs.drop (i + 1)) acc') → F (i : Int) acc = G (x :: xs.drop (i + 1)) acc) :
    ∀ (i : Nat), i ≤ xs.length → ∀ acc, F (i : Int) acc = G (xs.drop i) acc := by
  intro i hi
  obtain ⟨d, hd⟩ : ∃ d, xs.length - i = d := ⟨_, rfl⟩
  induction d generalizing i with
  | zero =>
    intro acc
    have : i = xs.length := by omega
    subst this
    rw [List.drop_length]; exact hnil acc
  | succ d ih =>
    intro acc
    have hlt : i < xs.length := by omega
    have hx : xs[i]? = some xs[i] := List.getElem?_eq_getElem hlt
    rw [drop_eq hx]
    exact hcons i xs[i] acc hx hlt (ih (i + 1) (by omega) (by omega))
theorem loop_all {α β γ : Type} (xs : List α) (F : Int → β → γ) (G : List α → β → γ) (hnil : ∀ acc, F (xs.length : Int) acc = G [] acc)
    (hcons : ∀ (i : Nat) (x : α) (acc : β), xs[i]? = some x → i < xs.length → (∀ acc', F ((i + 1 : Nat) : Int) acc' = G (xs.drop (i + 1)) acc') → F (i : Int) acc = G (x :: xs.drop (i + 1)) acc) (acc : β) : F 0 acc = G xs acc := by
  have := loop_drop xs F G hnil hcons 0 (Nat.zero_le _) acc
  simpa using this
/-- A loop that counts up to n. -/
theorem loop_up {β γ : Type} (n : Nat) (F : Int → β → γ) (G : Nat → β → γ) (hnil : ∀ acc, F (n : Int) acc = G 0 acc)
    (hcons : ∀ (i : Nat) (acc : β), i < n → (∀ acc', F ((i + 1 : Nat) : Int) acc' = G (n - (i + 1)) acc') → F (i : Int) acc = G (n - (i + 1) + 1) acc) (acc : β) : F 0 acc = G n acc := by
  have : ∀ d i, n - i = d → i ≤ n → ∀ acc, F (i : Int) acc = G (n - i) acc := by
    intro d
    induction d with
    | zero =>
      intro i hd hi acc
      have : i = n := by omega
      subst this
      rw [Nat.sub_self]; exact hnil acc
    | succ d ih =>
      intro i hd hi acc
      have := hcons i acc (by omega) (ih (i + 1) (by omega) (by omega))
      rw [this]; congr 1; omega
  have := this n 0 (by omega) (Nat.zero_le _) acc
  simpa using this

theorem take_set {α : Type} (acc : List α) (i : Nat) (h : i < acc.length) (z : α) : (acc.set i z).take (i + 1) = acc.take i ++ [z] := by
  rw [List.take_add_one, List.take_set, List.set_eq_of_length_le (by rw [List.length_take]; omega)]
  simp [h]
/-! #### loops that test -/
theorem all_loop {α : Type} (p : α → Bool) (xs : List α) (F : Int → Option Bool) (h1 : ∀ (i : Nat) (h : i < xs.length), F i = bif p xs[i] then F ((i + 1 : Nat) : Int) else some false) (h0 : F (xs.length : Nat) = some true) : F 0 = some (xs.all p) := by
  have key : ∀ (d i : Nat), xs.length - i = d → i ≤ xs.length → F i = some ((xs.drop i).all p) := by
    intro d
    induction d with
    | zero =>
      intro i hd hi
      have e : i = xs.length := by omega
      rw [e, h0, List.drop_length]; rfl
    | succ d ih =>
      intro i hd hi
      have hlt : i < xs.length := by omega
      rw [h1 i hlt, ih (i + 1) (by omega) (by omega), List.drop_eq_getElem_cons hlt, List.all_cons]
      cases p xs[i] <;> rfl
  have := key xs.length 0 (by omega) (by omega)
  simpa using this
theorem find_loop {α : Type} (p : α → Bool) (t : α → Option Bool) (xs : List α) (hn : xs.length < 4611686018427387904) (ht : ∀ x ∈ xs, t x = some (p x)) (F : Int → Option Int)
    (heq : ∀ i : Int, F i = bif decide (i < (xs.length : Int)) then (at? xs i).bind fun y => (t y).bind fun b => bif b then some i else F (IntKind.i64.wrap (i + 1)) else some (-1)) :
    ∃ r, F 0 = some r ∧ decide (r ≥ 0) = xs.any p := by
  have key : ∀ (d i : Nat), xs.length - i = d → i ≤ xs.length → ∃ r, F i = some r ∧ decide (r ≥ 0) = (xs.drop i).any p := by
    intro d
    induction d with
    | zero =>
      intro i hd hi
      have e : i = xs.length := by omega
      refine ⟨-1, ?_, ?_⟩
      · rw [heq, e]; simp
      · rw [e, List.drop_length]; rfl
    | succ d ih =>
      intro i hd hi
      have hlt : i < xs.length := by omega
      rw [heq, List.drop_eq_getElem_cons hlt, List.any_cons]
      simp only [at?_lt, hlt, Option.bind_some, wrapS i (by omega), Int.ofNat_lt, decide_true, cond_true, ht _ (List.getElem_mem hlt)]
      cases p xs[i] with
      | true => exact ⟨i, rfl, by simp⟩
      | false =>
        obtain ⟨r, h1, h2⟩ := ih (i + 1) (by omega) (by omega)
        exact ⟨r, h1, by simpa using h2⟩
  have := key xs.length 0 (by omega) (by omega)
  simpa using this
/-! #### what laws do with lists -/
theorem copy_loop {α α' : Type} (f : α → Option α') (g : α → α') (xs : List α) (hn : xs.length < 4611686018427387904) (hf : ∀ x ∈ xs, f x = some (g x)) (F : Int → List α' → Option (List α'))
    (heq : ∀ (i : Int) (acc : List α'), F i acc = bif decide (i < (xs.length : Int)) then (at? xs i).bind fun y => (f y).bind fun z => (at? acc i).bind fun _ => acc[i.toNat]?.bind fun _ => F (IntKind.i64.wrap (i + 1)) (acc.set i.toNat z) else some acc)
    (acc : List α') (ha : acc.length = xs.length) : F 0 acc = some (xs.map g) := by
  have key : ∀ (d i : Nat), xs.length - i = d → i ≤ xs.length → ∀ acc : List α', acc.length = xs.length → F i acc = some (acc.take i ++ (xs.drop i).map g) := by
    intro d
    induction d with
    | zero =>
      intro i hd hi acc ha
      have : ¬ ((i : Int) < (xs.length : Int)) := by omega
      rw [heq]
      simp [this, List.drop_eq_nil_of_le (show xs.length ≤ i by omega), List.take_of_length_le (show acc.length ≤ i by omega)]
    | succ d ih =>
      intro i hd hi acc ha
      have hlt : i < xs.length := by omega
      have hlt' : i < acc.length := by omega
      rw [heq]
      simp only [at?_lt, hlt, hlt', Int.toNat_natCast, List.getElem?_eq_getElem, Option.bind_some, wrapS i (by omega), Int.ofNat_lt, decide_true, cond_true, hf _ (List.getElem_mem hlt)]
      rw [ih (i + 1) (by omega) (by omega) _ (by simp [ha]), List.drop_eq_getElem_cons hlt, take_set acc i hlt', List.map_cons, List.append_assoc, List.singleton_append]
  have := key xs.length 0 (by omega) (by omega) acc ha
  simpa using this
theorem eq_loop {α : Type} [DecidableEq α] (t : α → α → Option Bool) (xs ys : List α) (hl : xs.length = ys.length) (hn : xs.length < 4611686018427387904) (ht : ∀ x ∈ xs, ∀ y ∈ ys, t x y = some (decide (x = y))) (F : Int → Option Bool)
    (heq : ∀ i : Int, F i = bif decide (i < (xs.length : Int)) then (at? xs i).bind fun x => (at? ys i).bind fun y => (t x y).bind fun b => bif !b then some false else F (IntKind.i64.wrap (i + 1)) else some true) : F 0 = some (decide (xs = ys)) := by
  have key : ∀ (d i : Nat), xs.length - i = d → i ≤ xs.length → F i = some (decide (xs.drop i = ys.drop i)) := by
    intro d
    induction d with
    | zero =>
      intro i hd hi
      have : ¬ ((i : Int) < (xs.length : Int)) := by omega
      rw [heq]
      simp [this, List.drop_eq_nil_of_le (show xs.length ≤ i by omega), List.drop_eq_nil_of_le (show ys.length ≤ i by omega)]
    | succ d ih =>
      intro i hd hi
      have hlt : i < xs.length := by omega
      have hlt' : i < ys.length := by omega
      rw [heq]
      simp only [at?_lt, hlt, hlt', Option.bind_some, wrapS i (by omega), Int.ofNat_lt, decide_true, cond_true, ht _ (List.getElem_mem hlt) _ (List.getElem_mem hlt')]
      rw [ih (i + 1) (by omega) (by omega), List.drop_eq_getElem_cons hlt, List.drop_eq_getElem_cons hlt']
      by_cases h : xs[i] = ys[i]
      · simp only [h, List.cons.injEq, true_and, decide_true, Bool.not_true, cond_false]
      · simp only [h, List.cons.injEq, false_and, decide_false, Bool.not_false, cond_true]
  have := key xs.length 0 (by omega) (by omega)
  simpa using this
theorem eq_list {α : Type} [DecidableEq α] (xs ys : List α) (F : Option Bool) (h : xs.length = ys.length → F = some (decide (xs = ys))) :
    (bif (xs.length : Int) != (ys.length : Int) then some false else F) = some (decide (xs = ys)) := by
  by_cases hl : xs.length = ys.length
  · rw [h hl]; simp [hl]
  · have : xs ≠ ys := fun h => hl (by rw [h])
    have h2 : ((xs.length : Int) != (ys.length : Int)) = true := by simp; omega
    rw [h2]; simp [this]
def markF {α : Type} (f : Int → α) (k : Int) (n : Nat) : List α := (List.range n).map fun (i : Nat) => f (k + (i : Int))
theorem markF_length {α : Type} (f : Int → α) (k : Int) (n : Nat) : (markF f k n).length = n := by simp [markF]
theorem mark_loop {α : Type} (f : Int → α) (xs : List α) (k : Int) (hk : 0 ≤ k) (hn : k + (xs.length : Int) < 4611686018427387904) (F : Int → Int → List α → Option (Int × List α))
    (heq : ∀ (k i : Int) (acc : List α), F k i acc = bif decide (i < (acc.length : Int)) then (at? acc i).bind fun _ => acc[i.toNat]?.bind fun _ => F (IntKind.i64.wrap (k + 1)) (IntKind.i64.wrap (i + 1)) (acc.set i.toNat (f k)) else some (k, acc)) :
    F k 0 xs = some (k + xs.length, markF f k xs.length) := by
  have key : ∀ (d i : Nat), xs.length - i = d → i ≤ xs.length → ∀ acc : List α, acc.length = xs.length → acc.take i = markF f k i → F (k + i) i acc = some (k + xs.length, markF f k xs.length) := by
    intro d
    induction d with
    | zero =>
      intro i hd hi acc ha ht
      have e : i = xs.length := by omega
      rw [heq]
      have : ¬ ((i : Int) < (acc.length : Int)) := by omega
      simp only [this, decide_false, cond_false]
      rw [List.take_of_length_le (by omega)] at ht
      rw [ht, e]
    | succ d ih =>
      intro i hd hi acc ha ht
      have hlt : i < acc.length := by omega
      rw [heq]
      simp only [at?_lt, hlt, Int.toNat_natCast, List.getElem?_eq_getElem, Option.bind_some, wrapS i (by omega), Int.ofNat_lt, decide_true, cond_true]
      rw [wrapI (by omega) (by omega), show k + (i : Int) + 1 = k + ((i + 1 : Nat) : Int) by omega]
      refine ih (i + 1) (by omega) (by omega) _ (by simp [ha]) ?_
      have e2 : markF f k (i + 1) = markF f k i ++ [f (k + i)] := by simp [markF, List.range_succ]
      rw [e2, ← ht, take_set acc i hlt]
  have := key xs.length 0 (by omega) (by omega) xs rfl (by simp [markF])
  simpa using this
theorem held_loop {α : Type} (f : Int → α) (n : Nat) (k : Int) (hk : 0 ≤ k) (hn : k + (n : Int) < 4611686018427387904) (t : α → Int → Bool) (ht : ∀ k, t (f k) k = false) (F : Int → Int → Option Int)
    (heq : ∀ (v i : Int), F v i = bif decide (i < ((markF f k n).length : Int)) then (at? (markF f k n) i).bind fun y => bif t y v then some (-1) else F (IntKind.i64.wrap (v + 1)) (IntKind.i64.wrap (i + 1)) else some v) :
    F k 0 = some (k + n) := by
  have key : ∀ (d i : Nat), n - i = d → i ≤ n → F (k + i) i = some (k + n) := by
    intro d
    induction d with
    | zero =>
      intro i hd hi
      have e : i = n := by omega
      subst e
      rw [heq, markF_length]
      simp
    | succ d ih =>
      intro i hd hi
      have hlt : i < (markF f k n).length := by rw [markF_length]; omega
      have e : (markF f k n)[i] = f (k + i) := by simp [markF]
      rw [heq]
      simp only [at?_lt, hlt, Option.bind_some, wrapS i (by omega), Int.ofNat_lt, decide_true, cond_true, e, ht, cond_false]
      rw [wrapI (by omega) (by omega), show k + (i : Int) + 1 = k + ((i + 1 : Nat) : Int) by omega]
      exact ih (i + 1) (by omega) (by omega)
  have := key n 0 (by omega) (by omega)
  simpa using this

theorem lim_ok {a b : Nat} (h : a ≤ b) : decide (a ≤ b) = true := decide_eq_true h
theorem one_lt (n : Nat) : decide ((1 : Int) + (n : Int) < 0) = false := decide_eq_false (by omega)
theorem bif_ne {α β : Type} [BEq α] [LawfulBEq α] {a b : α} (h : a ≠ b) (x y : β) : (bif a != b then x else y) = x := by
  have : (a != b) = true := by simp [h]
  rw [this]; rfl
theorem bif_nne {α β : Type} [BEq α] [LawfulBEq α] {a b : α} (h : a = b) (x y : β) : (bif a != b then x else y) = y := by
  subst h; simp
theorem bif_eq {α β : Type} [BEq α] [LawfulBEq α] {a b : α} (h : a = b) (x y : β) : (bif a == b then x else y) = x := by
  subst h; simp
theorem bif_neq {α β : Type} [BEq α] [LawfulBEq α] {a b : α} (h : a ≠ b) (x y : β) : (bif a == b then x else y) = y := by
  have : (a == b) = false := by simp [h]
  rw [this]; rfl
theorem drop_nil {α : Type} (l : List α) {n : Nat} (h : l.length ≤ n) : l.drop n = [] := List.drop_eq_nil_of_le h
theorem pair_eta {α β : Type} (p : α × β) : (p.1, p.2) = p := rfl
theorem bif_true {α : Type} (a b : α) : (bif true then a else b) = a := rfl
theorem bif_false {α : Type} (a b : α) : (bif false then a else b) = b := rfl
theorem bif_dec {α : Type} {p : Prop} [Decidable p] (h : p) (a b : α) : (bif decide p then a else b) = a := by rw [decide_eq_true h]; rfl
theorem bif_ndec {α : Type} {p : Prop} [Decidable p] (h : ¬ p) (a b : α) : (bif decide p then a else b) = b := by rw [decide_eq_false h]; rfl
end Go.Ev
