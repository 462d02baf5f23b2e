/- A verified evaluator of function bodies, part 3: definitions and their soundness. -/
import Derived.Deep.Slices
import Derived.ChangeArms
import Derived.Below
import Derived.Carry
import Derived.IntWalk
import Derived.Test.YtmdkpcneakoagaaGreatEvB
set_option linter.unusedVariables false
set_option linter.unusedSimpArgs false
/- Shapes of what calls are given and give; contracts by shapes. -/
namespace Go.Ev
section
variable {α B : Type}
def PrC (ty : α → Type) (A : Type) : List α → Type
 | [] => A
 | s :: ss => A × PrC ty (ty s) ss
def Pr (ty : α → Type) : List α → Type
 | [] => Unit
 | s :: ss => PrC ty (ty s) ss
def encPC (ty : α → Type) (e : (s : α) → ty s → B) (A : Type) (f : A → B) : (ss : List α) → PrC ty A ss → List B
 | [], x => [f x]
 | s :: ss, (x, y) => f x :: encPC ty e (ty s) (e s) ss y
def encP (ty : α → Type) (e : (s : α) → ty s → B) : (ss : List α) → Pr ty ss → List B
 | [], _ => []
 | s :: ss, x => encPC ty e (ty s) (e s) ss x
def one? : List B → Option B
 | [t] => some t
 | _ => none
def unc? : List B → Option (B × List B)
 | t :: ts => some (t, ts)
 | [] => none
def decPC (ty : α → Type) (d : (s : α) → B → Option (ty s)) (A : Type) (f : B → Option A) : (ss : List α) → List B → Option (PrC ty A ss)
 | [], ts => (one? ts).bind f
 | s :: ss, ts => (unc? ts).bind fun p => (f p.1).bind fun x => (decPC ty d (ty s) (d s) ss p.2).bind fun y => some ((x, y) : A × PrC ty (ty s) ss)
def decP (ty : α → Type) (d : (s : α) → B → Option (ty s)) : (ss : List α) → List B → Option (Pr ty ss)
 | [], ts => match ts with | [] => some () | _ => none
 | s :: ss, ts => decPC ty d (ty s) (d s) ss ts
theorem one?_some {ts : List B} {t : B} (h : one? ts = some t) : ts = [t] := by
 match ts, h with
 | [_], h => cases h; rfl
theorem unc?_some {ts : List B} {p : B × List B} (h : unc? ts = some p) : ts = p.1 :: p.2 := by
 match ts, h with
 | _ :: _, h => cases h; rfl
theorem decPC_ok {ty : α → Type} {e : (s : α) → ty s → B} {d : (s : α) → B → Option (ty s)} (h : ∀ s t x, d s t = some x → e s x = t) : ∀ (ss : List α) (A : Type) (g : A → B) (f : B → Option A), (∀ t x, f t = some x → g x = t) → ∀ (ts : List B) (x : PrC ty A ss), decPC ty d A f ss ts = some x → encPC ty e A g ss x = ts := by
 intro ss
 induction ss with
 | nil =>
  intro A g f hf ts x hx
  obtain ⟨t, h1, h2⟩ := Z52.1 hx
  rw [one?_some h1]
  exact congrArg (fun y => [y]) (hf t x h2)
 | cons s ss ih =>
  intro A g f hf ts x hx
  obtain ⟨p, h1, h2⟩ := Z52.1 hx
  obtain ⟨y, h3, h4⟩ := Z52.1 h2
  obtain ⟨z, h5, h6⟩ := Z52.1 h4
  have h6 := Option.some.inj h6
  subst h6
  rw [unc?_some h1]
  show g y :: encPC ty e (ty s) (e s) ss z = p.1 :: p.2
  rw [hf p.1 y h3, ih (ty s) (e s) (d s) (h s) p.2 z h5]
theorem decP_ok {ty : α → Type} {e : (s : α) → ty s → B} {d : (s : α) → B → Option (ty s)} (h : ∀ s t x, d s t = some x → e s x = t) : ∀ (ss : List α) (ts : List B) (x : Pr ty ss), decP ty d ss ts = some x → encP ty e ss x = ts
 | [], ts, x, hx => by
  match ts, hx with
  | [], hx => rfl
  | _ :: _, hx => cases hx
 | s :: ss, ts, x, hx => decPC_ok h ss (ty s) (e s) (d s) (h s) ts x hx
theorem encPC_len {ty : α → Type} {e : (s : α) → ty s → B} : ∀ (ss : List α) (A : Type) (g : A → B) (x : PrC ty A ss), (encPC ty e A g ss x).length = ss.length + 1
 | [], A, g, x => rfl
 | s :: ss, A, g, (x, y) => by simp only [encPC, Z2, encPC_len ss]
theorem encP_len {ty : α → Type} {e : (s : α) → ty s → B} : ∀ (ss : List α) (x : Pr ty ss), (encP ty e ss x).length = ss.length
 | [], _ => rfl
 | s :: ss, x => encPC_len ss _ _ x
end
inductive Cl where
 | int (k : IntKind)
 | bool
 | str
 | sl (own inner : Bool) (e : TypeId)
inductive Up (α : Type) where
 | b (s : α)
 | ptr (own : Bool) (t : TypeId) (cells : List α)
 | fn (f : Nat) (caps : List α)
def Cl.ty (l : Qy) : Cl → Type
 | .int _ => Int
 | .bool => Bool
 | .str => ByteArray
 | .sl _ _ e => List (GT l e)
def Up.ty {α : Type} (ty : α → Type) : Up α → Type
 | .b s => ty s
 | .ptr _ _ cells => Pr ty cells
 | .fn _ caps => Pr ty caps
abbrev Sh := Up (Up (Up (Up Cl)))
def Sh.ty (l : Qy) : Sh → Type := Up.ty (Up.ty (Up.ty (Up.ty (Cl.ty l))))
def encCl (l : Qy) : (s : Cl) → s.ty l → T (GT l)
 | .int k, n => .int k n
 | .bool, b => .bool b
 | .str, s => .str s
 | .sl own inner e, xs => .sl own inner e xs
def Up.enc {α : Type} {Γ : TypeId → Type} {ty : α → Type} (e : (s : α) → ty s → T Γ) : (s : Up α) → s.ty ty → T Γ
 | .b s, x => e s x
 | .ptr own t cells, x => .ptr own t (encP ty e cells x)
 | .fn f caps, x => .fn f (encP ty e caps x)
def encS (l : Qy) : (s : Sh) → s.ty l → T (GT l) := Up.enc (Up.enc (Up.enc (Up.enc (encCl l))))
def decCl (l : Qy) : (s : Cl) → T (GT l) → Option (s.ty l)
 | .int k, t => match t with | .int k' n => if k' = k then some n else none | _ => none
 | .bool, t => match t with | .bool b => some b | _ => none
 | .str, t => match t with | .str s => some s | _ => none
 | .sl own inner e, t => match t with
  | .sl o i e' xs => if he : e' = e then (bif (o == own) && (i == inner) then some (he ▸ xs : List (GT l e)) else none) else none
  | _ => none
def Up.dec {α : Type} {Γ : TypeId → Type} {ty : α → Type} (d : (s : α) → T Γ → Option (ty s)) : (s : Up α) → T Γ → Option (s.ty ty)
 | .b s, t => d s t
 | .ptr own t cells, u => match u with
  | .ptr o t' cs => bif (o == own) && t'.beq t then decP ty d cells cs else none
  | _ => none
 | .fn f caps, u => match u with
  | .fn f' cs => bif f'.beq f then decP ty d caps cs else none
  | _ => none
def decS (l : Qy) : (s : Sh) → T (GT l) → Option (s.ty l) := Up.dec (Up.dec (Up.dec (Up.dec (decCl l))))
variable {l : Qy}
theorem decCl_ok : ∀ (s : Cl) (t : T (GT l)) (x : s.ty l), decCl l s t = some x → encCl l s x = t
 | .int k, t, x, h => by
  cases t with
  | int k' n =>
   simp only [decCl] at h
   split at h
   ·rename_i hk; cases h; simp only [encCl, hk]
   ·cases h
  | _ => simp only [decCl] at h; cases h
 | .bool, t, x, h => by
  cases t with
  | bool b => simp only [decCl] at h; cases h; rfl
  | _ => simp only [decCl] at h; cases h
 | .str, t, x, h => by
  cases t with
  | str b => simp only [decCl] at h; cases h; rfl
  | _ => simp only [decCl] at h; cases h
 | .sl own inner e, t, x, h => by
  cases t with
  | sl o i e' xs =>
   simp only [decCl] at h
   split at h
   ·rename_i he
    subst he
    replace h := Q0a h; obtain ⟨hb, h⟩ := h
    rw [Z4] at hb
    have h1 : o = own := by simpa using hb.1
    have h2 : i = inner := by simpa using hb.2
    cases h
    subst h1; subst h2
    rfl
   ·cases h
  | _ => simp only [decCl] at h; cases h
theorem Up.dec_ok {α : Type} {Γ : TypeId → Type} {ty : α → Type} {e : (s : α) → ty s → T Γ} {d : (s : α) → T Γ → Option (ty s)} (h : ∀ s t x, d s t = some x → e s x = t) : ∀ (s : Up α) (t : T Γ) (x : s.ty ty), Up.dec d s t = some x → Up.enc e s x = t
 | .b s, t, x, hx => h s t x hx
 | .ptr own t cells, u, x, hx => by
  cases u with
  | ptr o t' cs =>
   simp only [Up.dec] at hx
   replace hx := Q0a hx; obtain ⟨hb, hx⟩ := hx
   rw [Z4] at hb
   have h1 : o = own := by simpa using hb.1
   have h2 := beq_eq hb.2
   subst h1; subst h2
   show T.ptr o t' (encP ty e cells x) = _
   rw [decP_ok h cells cs x hx]
  | _ => simp only [Up.dec] at hx; cases hx
 | .fn f caps, u, x, hx => by
  cases u with
  | fn f' cs =>
   simp only [Up.dec] at hx
   replace hx := Q0a hx; obtain ⟨hb, hx⟩ := hx
   have h2 := beq_eq hb
   subst h2
   show T.fn f' (encP ty e caps x) = _
   rw [decP_ok h caps cs x hx]
  | _ => simp only [Up.dec] at hx; cases hx
theorem decS_ok (s : Sh) (t : T (GT l)) (x : s.ty l) (h : decS l s t = some x) : encS l s x = t :=
 Up.dec_ok (Up.dec_ok (Up.dec_ok (Up.dec_ok decCl_ok))) s t x h
inductive VSh where
 | one (s : Sh)
 | agg (ss : List Cl)
def VSh.ty (l : Qy) : VSh → Type
 | .one s => s.ty l
 | .agg ss => Pr (Cl.ty l) ss
def encV (l : Qy) : (s : VSh) → s.ty l → TV (GT l)
 | .one s, x => .one (encS l s x)
 | .agg ss, x => .agg (encP (Cl.ty l) (encCl l) ss x)
def decV (l : Qy) : (s : VSh) → TV (GT l) → Option (s.ty l)
 | .one s, v => match v with | .one t => decS l s t | _ => none
 | .agg ss, v => match v with | .agg ts => decP (Cl.ty l) (decCl l) ss ts | _ => none
theorem decV_ok (s : VSh) (t : TV (GT l)) (x : s.ty l) (h : decV l s t = some x) : encV l s x = t := by
 cases s with
 | one s =>
  cases t with
  | one t =>
   have h : decS l s t = some x := h
   show TV.one (encS l s x) = TV.one t
   rw [decS_ok s t x h]
  | agg ts => exact absurd h (by intro h; cases h)
  | tup ts => exact absurd h (by intro h; cases h)
 | agg ss =>
  cases t with
  | agg ts =>
   have h : decP (Cl.ty l) (decCl l) ss ts = some x := h
   show TV.agg (encP (Cl.ty l) (encCl l) ss x) = TV.agg ts
   rw [decP_ok decCl_ok ss ts x h]
  | one t => exact absurd h (by intro h; cases h)
  | tup ts => exact absurd h (by intro h; cases h)
abbrev Args (l : Qy) (as : List VSh) : Type := Pr (VSh.ty l) as
def Q2V (l : Qy) (as : List VSh) (x : Args l as) : List (TV (GT l)) := encP (VSh.ty l) (encV l) as x
def decArgs (l : Qy) (as : List VSh) (ts : List (TV (GT l))) : Option (Args l as) := decP (VSh.ty l) (decV l) as ts
def keptOf : List (Option VSh) → List VSh
 | [] => []
 | none :: r => keptOf r
 | some s :: r => s :: keptOf r
def encK (l : Qy) : (ks : List (Option VSh)) → List (TV (GT l)) → List (Option (TV (GT l)))
 | [], _ => []
 | none :: r, ts => none :: encK l r ts
 | some _ :: r, ts => match ts with | t :: ts => some t :: encK l r ts | [] => []
def decK (l : Qy) : (ks : List (Option VSh)) → List (Option (TV (GT l))) → Option (List (TV (GT l)))
 | [], vs => match vs with | [] => some [] | _ => none
 | none :: r, vs => match vs with | none :: vs => decK l r vs | _ => none
 | some _ :: r, vs => match vs with | some t :: vs => (match decK l r vs with | some ts => some (t :: ts) | none => none) | _ => none
theorem decK_ok : ∀ (ks : List (Option VSh)) (vs : List (Option (TV (GT l)))) (ts : List (TV (GT l))), decK l ks vs = some ts → encK l ks ts = vs
 | [], vs, ts, h => by
  match vs, h with
  | [], h => rfl
  | _ :: _, h => cases h
 | none :: r, vs, ts, h => by
  match vs, h with
  | [], h => cases h
  | none :: vs, h => exact congrArg (none :: ·) (decK_ok r vs ts h)
  | some _ :: _, h => cases h
 | some s :: r, vs, ts, h => by
  match vs, h with
  | [], h => cases h
  | none :: vs, h => cases h
  | some t :: vs, h =>
   unfold decK at h
   simp only at h
   split at h
   ·rename_i ts' h'
    cases h
    simp only [encK, decK_ok r vs ts' h']
   ·cases h
structure RSh where
 rs : List VSh
 ks : List (Option VSh)
def Cl.owns : Cl → Bool
 | .sl own _ _ => own
 | _ => false
def Up.owns {α : Type} (f : α → Bool) : Up α → Bool
 | .b s => f s
 | .ptr own _ cells => own || cells.any f
 | .fn _ caps => caps.any f
def VSh.owns : VSh → Bool
 | .one s => Up.owns (Up.owns (Up.owns (Up.owns Cl.owns))) s
 | .agg ss => ss.any Cl.owns
def rmsOf (r : RSh) : List Mode := r.rs.map fun s => bif s.owns then .give else .lend
abbrev ResT (l : Qy) (r : RSh) : Type := Pr (VSh.ty l) (r.rs ++ keptOf r.ks)
def unpackTV (l : Qy) : List VSh → TV (GT l) → Option (List (TV (GT l)))
 | [_], v => some [v]
 | _, v => match v with | .tup vs => some vs | _ => none
def Q1M (l : Qy) (r : RSh) (x : ResT l r) : Res (GT l) :=
 let ts := encP (VSh.ty l) (encV l) (r.rs ++ keptOf r.ks) x
 ((match r.rs with | [_] => packTV (ts.take 1) | rs => .tup (ts.take rs.length)), encK l r.ks (ts.drop r.rs.length))
def decRes (l : Qy) (r : RSh) (v : Res (GT l)) : Option (ResT l r) :=
 match unpackTV l r.rs v.1 with
 | none => none
 | some vs => match decK l r.ks v.2 with
  | none => none
  | some ts => bif vs.length.beq r.rs.length then decP (VSh.ty l) (decV l) (r.rs ++ keptOf r.ks) (vs ++ ts) else none
theorem decRes_ok (r : RSh) (v : Res (GT l)) (x : ResT l r) (h : decRes l r v = some x) : Q1M l r x = v := by
 obtain ⟨v1, v2⟩ := v
 unfold decRes at h
 simp only at h
 split at h
 ·cases h
 ·rename_i vs hu
  split at h
  ·cases h
  ·rename_i ts hk
   replace h := Q0a h; obtain ⟨hb, h⟩ := h
   have hl := beq_eq hb
   have e := decP_ok decV_ok _ _ x h
   unfold Q1M
   simp only [e]
   rw [← hl, List.drop_left, decK_ok _ _ _ hk]
   congr 1
   unfold unpackTV at hu
   split at hu
   ·rename_i s hs
    cases hu
    simp only [hs]
    rfl
   ·rename_i hn
    split at hu
    ·cases hu
     rename_i us _
     split
     ·rename_i s hs
      exact absurd hs (hn s)
     ·rw [← hl, List.take_left]
    ·cases hu
end Go.Ev
/- Contracts by shapes; the type table's check. -/
namespace Go.Ev
variable {l : Qy} {β : Type}
def Q1Q (l : Qy) (modes : List Mode) (as : List VSh) (r : RSh) (F : Args l as → Option (ResT l r)) : Callee (GT l) β :=
 { modes, sem := fun tvs k => (decArgs l as tvs).bind fun x => (F x).bind fun y => k (Q1M l r y) }
def calleeB (t : TypeId) (g : Nat) : Callee (GT l) β := { modes := [], sem := fun _ _ => none, boxer := some (t, g) }
theorem con_box {P : Program} {f : FuncId} {t : TypeId} {g : Nat} (h : Boxes P f t g) : Con P (KT l) f (calleeB (l := l) (β := β) t g) :=
 ⟨fun _ _ _ h => (nomatch h), fun t' g' e => by cases (show some (t, g) = some (t', g') from e); exact h⟩
structure FnOk (P : Program) (f : FuncId) (fn : Func) (modes : List Mode) (body : Code) : Prop where
 func : P.funcs[f]? = some fn
 name : (fn.name == "runtime.NumGoroutine") = false
 body : fn.body = some body
def fiOf (Γ : TypeId → Type) (fn : Func) (modes : List Mode) (r : RSh) : FnI Γ := { modes, ntmps := fn.ntmps, results := fn.results.toList, rms := rmsOf r }
def keepOf : Nat → List Mode → List Nat
 | _, [] => []
 | i, .keep :: ms => i :: keepOf (i + 1) ms
 | i, _ :: ms => keepOf (i + 1) ms
theorem keepOf_mem : ∀ (ms : List Mode) (i j : Nat), ms[j]? = some .keep → memN (i + j) (keepOf i ms) = true
 | [], _, _, h => by simp at h
 | m :: ms, i, 0, h => by
  simp at h; subst h
  simp [keepOf, memN]
 | m :: ms, i, j + 1, h => by
  have ih := keepOf_mem ms (i + 1) j (by simpa using h)
  rw [show i + 1 + j = i + (j + 1) by omega] at ih
  cases m with
  | keep => simp only [keepOf, memN, ih, Bool.or_true]
  | lend => exact ih
  | give => exact ih
theorem Q3j {as : List VSh} {tvs : List (TV (GT l))} {x : Args l as} (h : decArgs l as tvs = some x) : Q2V l as x = tvs := decP_ok decV_ok as tvs x h
theorem args_len {as : List VSh} (x : Args l as) : (Q2V l as x).length = as.length := encP_len as x
section
variable {P : Program} {δ : Type}
theorem calls_at {modes : List Mode} {as : List VSh} {r : RSh} {c : Ctx (GT l) (KT l) (ResT l r)} (hmx : P.follows .mixedOrders = true) (hty : TyOk P (KT l) c.X c.ty) (hG : ∀ f cal, c.G f = some cal → Con P (KT l) f cal) {f : FuncId} {fn : Func} {body : Code} (hf : FnOk P f fn modes body) (hk : c.keep = keepOf 0 modes) (hm : modes.length = as.length)
  {x : Args l as} {y : ResT l r} (h : callW c (fiOf (GT l) fn modes r) body (decRes l r) (Q2V l as x) = some y) {w : World} {A : Nat → Prop} {args : List Value} {L : List Nat} (hT : TvRs (KT l) w A (Q2V l as x) args L) (hnd : L.Nodup) (hL : ∀ b ∈ L, b < w.heap.size ∧ ¬ A b) (hA : ∀ b, A b → b < w.heap.size) :
  CallsF P f args.toArray w (Post (KT l) w A L args (Q1M l r y)) := by
 have := con_of (fi := fiOf (GT l) fn modes r) hmx hty hG hf.func hf.name hf.body rfl rfl (fun i hi => by rw [hk]; have := keepOf_mem modes 0 i hi; rwa [Z25] at this) h (by show modes.length = _; rw [args_len]; exact hm) hT hnd hL hA
 intro o a next Q hnext
 refine this o a next Q fun v w' hR => hnext v w' ?_
 obtain ⟨r', h1, h2⟩ := hR
 rw [← decRes_ok r r' y h1] at h2
 exact h2
theorem Q5 {modes : List Mode} {as : List VSh} {r : RSh} {c : Ctx (GT l) (KT l) (ResT l r)} (hmx : P.follows .mixedOrders = true) (hty : TyOk P (KT l) c.X c.ty) (hG : ∀ f cal, c.G f = some cal → Con P (KT l) f cal) {f : FuncId} {fn : Func} {body : Code} (hf : FnOk P f fn modes body) (hk : c.keep = keepOf 0 modes) (hm : modes.length = as.length)
  {F : Args l as → Option (ResT l r)} (hF : ∀ x, F x = callW c (fiOf (GT l) fn modes r) body (decRes l r) (Q2V l as x)) : Con P (KT l) f (Q1Q (β := δ) l modes as r F) := by
 refine ⟨?_, fun t g h => nomatch (show (none : Option (TypeId × Nat)) = some (t, g) from h)⟩
 intro tvs k b h
 obtain ⟨x, h1, h2⟩ := Z52.1 h
 obtain ⟨y, h3, h4⟩ := Z52.1 h2
 refine ⟨Q1M l r y, fun k' => by simp only [Q1Q, h1, h3, Z0], fun w A args L hT hnd hL hA => ?_⟩
 rw [← Q3j h1] at hT
 rw [hF] at h3
 exact calls_at hmx hty hG hf hk hm h3 hT hnd hL hA
def getG : List (Nat × Callee (GT l) δ) → Nat → Option (Callee (GT l) δ)
 | [], _ => none
 | (i, c) :: r, f => bif f.beq i then some c else getG r f
inductive Q4 (P : Program) (l : Qy) : List (Nat × Callee (GT l) δ) → Prop
 | nil : Q4 P l []
 | cons {i c r} (h : Con P (KT l) i c) (k : Q4 P l r) : Q4 P l ((i, c) :: r)
theorem Q1 : ∀ {gs : List (Nat × Callee (GT l) δ)}, Q4 P l gs → ∀ f cal, getG gs f = some cal → Con P (KT l) f cal
 | _, .nil, f, cal, h => by cases h
 | _, .cons (i := i) hc k, f, cal, h => by
  simp only [getG] at h
  cases hb : f.beq i with
  | true =>
   rw [hb] at h; cases h
   rw [beq_eq hb]; exact hc
  | false => rw [hb] at h; exact Q1 k f cal h
end
def tyOf : List (Nat × TyI) → Nat → Option TyI
 | [], _ => none
 | (i, c) :: r, t => bif t.beq i then some c else tyOf r t
def liveOf : List (Nat × List Nat) → Nat → List Nat
 | [], _ => []
 | (i, c) :: r, t => bif t.beq i then c else liveOf r t
def zcB : List Zc → List Value → Bool
 | [], vs => match vs with | [] => true | _ => false
 | .int k :: zs, vs => match vs with | .int k' n :: vs => decide (k' = k) && decide (n = 0) && zcB zs vs | _ => false
 | .bool :: zs, vs => match vs with | .bool b :: vs => !b && zcB zs vs | _ => false
 | .str :: zs, vs => match vs with | .string s :: vs => s.size.beq 0 && zcB zs vs | _ => false
 | .nil _ :: zs, vs => match vs with | .slice none 0 0 :: vs => zcB zs vs | _ => false
 | .any :: zs, vs => match vs with | v :: vs => v.oneCell' && zcB zs vs | _ => false
theorem zcB_ok : ∀ (zs : List Zc) (vs : List Value), zcB zs vs = true → ZcOk zs vs
 | [], vs, h => by
  cases vs with
  | nil => exact .nil
  | cons => cases h
 | .int k :: zs, vs, h => by
  unfold zcB at h
  split at h
  ·rename_i k' n vs
   simp only [Z4] at h
   have h1 := of_decide_eq_true h.1.1
   have h2 := of_decide_eq_true h.1.2
   subst h1; subst h2
   exact .int (zcB_ok zs vs h.2)
  ·cases h
 | .bool :: zs, vs, h => by
  unfold zcB at h
  split at h
  ·rename_i b vs
   simp only [Z4] at h
   have : b = false := by simpa using h.1
   subst this
   exact .bool (zcB_ok zs vs h.2)
  ·cases h
 | .str :: zs, vs, h => by
  unfold zcB at h
  split at h
  ·rename_i s vs
   simp only [Z4] at h
   have h1 := beq_eq h.1
   have : s = ⟨#[]⟩ := by
    cases s with
    | mk d =>
     have : d.size = 0 := h1
     rw [Array.eq_empty_of_size_eq_zero this]
   subst this
   exact .str (zcB_ok zs vs h.2)
  ·cases h
 | .nil e :: zs, vs, h => by
  unfold zcB at h
  split at h
  ·exact .sl (zcB_ok zs _ h)
  ·cases h
 | .any :: zs, vs, h => by
  unfold zcB at h
  split at h
  ·rw [Z4] at h; exact .any h.1 (zcB_ok zs _ h.2)
  ·cases h
def zcT : List CT → List Zc
 | [] => []
 | .int k :: cs => .int k :: zcT cs
 | .bool :: cs => .bool :: zcT cs
 | .str :: cs => .str :: zcT cs
 | .sl e _ :: cs => .nil e :: zcT cs
def slB (l : Qy) : List CT → Bool
 | [] => true
 | .sl e cs :: r => (match eqL cs (QR l e) with | some _ => true | none => false) && slB l r
 | _ :: r => slB l r
theorem castT_nil {a b : List CT} (h : a = b) : castT h [] = [] := by subst h; rfl
theorem zero_own {w : World} {A : Nat → Prop} {b : Bool} : ∀ (c : CT) (cs : List CT) (vs : List Value), ZcOk (zcT (c :: cs)) vs → slB l (c :: cs) = true → OwnL (KT l) w A (encR l b c cs (zeroR c cs)) vs [] := by
 have one : ∀ (c : CT) (cs : List CT) (vs : List Value), ZcOk (zcT (c :: cs)) vs → slB l (c :: cs) = true → ∃ v us, vs = v :: us ∧ Own (KT l) w A (encC l b c (zeroC c)) v [] ∧ ZcOk (zcT cs) us ∧ slB l cs = true := by
  intro c cs vs h hs
  cases c with
  | int k => cases h with | int h => exact ⟨_, _, rfl, .int _ _, h, hs⟩
  | bool => cases h with | bool h => exact ⟨_, _, rfl, .bool _, h, hs⟩
  | str => cases h with | str h => exact ⟨_, _, rfl, .str _, h, hs⟩
  | sl e cs' =>
   cases h with
   | sl h =>
    simp only [slB, Z4] at hs
    refine ⟨_, _, rfl, ?_, h, hs.2⟩
    simp only [encC]
    split
    ·rename_i hh he
     have e0 : castT hh (zeroC (.sl e cs')) = [] := castT_nil hh
     rw [e0]
     cases b with
     | true => exact Own.sl (v := .slice none 0 0) (vs := []) (L := []) (World.ownsRow_nil w 0 e _) .nil
     | false => exact .ro (.sl (vs := []) rfl (Z7 _) .nil (by simp))
    ·rename_i he
     rw [he] at hs; exact absurd hs.1 (by simp)
 intro c cs
 induction cs generalizing c with
 | nil =>
  intro vs h hs
  obtain ⟨v, us, rfl, h1, h2, _⟩ := one c [] vs h hs
  cases h2
  exact OwnL.cons (L := []) h1 .nil
 | cons c' cs ih =>
  intro vs h hs
  obtain ⟨v, us, rfl, h1, h2, h3⟩ := one c (c' :: cs) vs h hs
  exact OwnL.cons (L := []) h1 (ih c' us h2 h3)
def fieldsB (P : Program) : List Field → List (Nat × Nat × Bool) → Bool
 | [], fs => match fs with | [] => true | _ => false
 | f :: r, fs => match fs with
  | (off, sz, ag) :: fs => (match P.info? f.type with | some i => i.size.beq sz | none => false) && f.offset.beq off && Nat.ble 1 sz &&
    (match P.underlying f.type with | some (.struct _) => ag | some (.array _ _) => false | some _ => !ag | none => false) && fieldsB P r fs
  | [] => false
def kindB (P : Program) (l : Qy) (t : TypeId) : TK → Bool
 | .one => match P.underlying t with | some (.struct _) => false | some (.array _ _) => false | some (.slice _) => false | some _ => true | none => false
 | .bool => match P.underlying t with | some .bool => true | _ => false
 | .int k => match P.underlying t with | some (.int k') => decide (k' = k) | _ => false
 | .str => match P.underlying t with | some .string => true | _ => false
 | .sl e => (match P.underlying t with | some (.slice e') => e'.beq e | _ => false) &&
   match P.info? e with
    | some ie => ie.size.beq (QR l e).length && (match ie.zero with | some z => zcB (zcT (QR l e)) z.cells.toList && slB l (QR l e) | none => false)
    | none => false
 | .agg fs => match P.underlying t with | some (.struct fields) => fieldsB P fields.toList fs | _ => false
def tyB (P : Program) (l : Qy) (t : TypeId) (i : TyI) : Bool :=
 (match P.info? t with
  | some inf => inf.size.beq i.size && inf.bytes.beq i.bytes && (match inf.zero with | some z => zcB i.zero z.cells.toList | none => false)
  | none => false) && kindB P l t i.kind
def tysB (P : Program) (l : Qy) : List (Nat × TyI) → Bool
 | [] => true
 | (t, i) :: r => tyB P l t i && tysB P l r
theorem zcT_len : ∀ (cs : List CT), (zcT cs).length = cs.length
 | [] => rfl
 | .int _ :: cs => by simp [zcT, zcT_len cs]
 | .bool :: cs => by simp [zcT, zcT_len cs]
 | .str :: cs => by simp [zcT, zcT_len cs]
 | .sl _ _ :: cs => by simp [zcT, zcT_len cs]
theorem ZcOk.length : ∀ {zs : List Zc} {vs : List Value}, ZcOk zs vs → zs.length = vs.length
 | _, _, .nil => rfl
 | _, _, .int h => by simp [h.length]
 | _, _, .bool h => by simp [h.length]
 | _, _, .str h => by simp [h.length]
 | _, _, .sl h => by simp [h.length]
 | _, _, .any _ h => by simp [h.length]
theorem fieldsB_ok {P : Program} : ∀ (r : List Field) (fs : List (Nat × Nat × Bool)), fieldsB P r fs = true →
  r.mapM (fun f => (P.info? f.type).map fun i => (f.offset, i.size)) = some (fs.map fun p => (p.1, p.2.1)) ∧
  ∀ (f off sz : Nat) (b : Bool), fs[f]? = some (off, sz, b) → ∃ fd : Field, r[f]? = some fd ∧ fd.offset = off ∧ (∃ i, P.info? fd.type = some i ∧ i.size = sz) ∧ sz ≠ 0 ∧ ∃ d, P.underlying fd.type = some d ∧ (b = true ↔ ∃ fs, d = .struct fs) ∧ ∀ n e, d ≠ .array n e
 | [], fs, h => by
  cases fs with
  | nil => exact ⟨rfl, by simp⟩
  | cons => cases h
 | f :: r, [], h => by cases h
 | f :: r, (off, sz, ag) :: fs, h => by
  simp only [fieldsB, Z4] at h
  obtain ⟨⟨⟨⟨h1, h2⟩, h3⟩, h4⟩, h5⟩ := h
  obtain ⟨k1, k2⟩ := fieldsB_ok r fs h5
  have h2 := beq_eq h2
  have h3 := Q2i h3
  cases hi : P.info? f.type with
  | none => rw [hi] at h1; cases h1
  | some i =>
   rw [hi] at h1
   have h1 := beq_eq h1
   refine ⟨by rw [List.mapM_cons, k1]; simp [hi, h1, h2], fun j off' sz' b' hj => ?_⟩
   cases j with
   | zero =>
    cases hj
    refine ⟨f, rfl, h2, ⟨i, hi, h1⟩, by omega, ?_⟩
    cases hu : P.underlying f.type with
    | none => rw [hu] at h4; cases h4
    | some d =>
     rw [hu] at h4
     refine ⟨d, rfl, ?_, ?_⟩
     ·cases d <;> simp_all
     ·intro n e he; subst he; cases h4
   | succ j => exact k2 j off' sz' b' (by simpa using hj)
theorem tysB_ok {P : Program} : ∀ (tl : List (Nat × TyI)), tysB P l tl = true → TyOk P (KT l) (XT l) (tyOf tl)
 | [], _, t, i, h => by cases h
 | (t0, i0) :: r, h, t, i, ht => by
  simp only [tysB, Z4] at h
  simp only [tyOf] at ht
  cases hb : t.beq t0 with
  | false => rw [hb] at ht; exact tysB_ok r h.2 t i ht
  | true =>
   rw [hb] at ht; cases ht
   rw [beq_eq hb]
   have h := h.1
   simp only [tyB, Z4] at h
   obtain ⟨h1, h2⟩ := h
   refine ⟨?_, ?_⟩
   ·cases hi : P.info? t0 with
    | none => rw [hi] at h1; cases h1
    | some inf =>
     rw [hi] at h1
     simp only [Z4] at h1
     cases hz : inf.zero with
     | none => rw [hz] at h1; exact absurd h1.2 (by simp)
     | some z =>
      rw [hz] at h1
      exact ⟨inf, rfl, beq_eq h1.1.1, beq_eq h1.1.2, z, hz, zcB_ok _ _ h1.2⟩
   ·cases hk : i0.kind with
    | one =>
     rw [hk] at h2
     simp only [kindB] at h2
     cases hu : P.underlying t0 with
     | none => rw [hu] at h2; cases h2
     | some d =>
      rw [hu] at h2
      refine ⟨d, hu, ?_, ?_, ?_⟩ <;> intros <;> intro he <;> subst he <;> cases h2
    | bool =>
     rw [hk] at h2
     simp only [kindB] at h2
     split at h2
     ·rename_i hu; exact hu
     ·cases h2
    | int k =>
     rw [hk] at h2
     simp only [kindB] at h2
     split at h2
     ·rename_i k' hu; rw [of_decide_eq_true h2] at hu; exact hu
     ·cases h2
    | str =>
     rw [hk] at h2
     simp only [kindB] at h2
     split at h2
     ·rename_i hu; exact hu
     ·cases h2
    | sl e =>
     rw [hk] at h2
     simp only [kindB, Z4] at h2
     obtain ⟨h3, h4⟩ := h2
     refine ⟨?_, ?_⟩
     ·split at h3
      ·rename_i e' hu; rw [beq_eq h3] at hu; exact hu
      ·cases h3
     ·cases hi : P.info? e with
      | none => rw [hi] at h4; cases h4
      | some ie =>
       rw [hi] at h4
       simp only [Z4] at h4
       cases hz : ie.zero with
       | none => rw [hz] at h4; exact absurd h4.2 (by simp)
       | some z =>
        rw [hz] at h4
        simp only [Z4] at h4
        have hzc := zcB_ok _ _ h4.2.1
        refine ⟨ie, rfl, beq_eq h4.1, z, hz, ?_, fun w A b => ?_⟩
        ·have := hzc.length
         rw [zcT_len] at this
         rw [← Z36, ← this]; rfl
        ·show OwnL (KT l) w A (encL l b (QR l e) (zeroL (QR l e))) z.cells.toList []
         have h5 := h4.2.2
         generalize hcs : QR l e = cs at hzc h5
         cases cs with
         | nil => have := tabOf_pos l e; rw [hcs] at this; simp at this
         | cons c cs => exact zero_own c cs _ hzc h5
    | agg fs =>
     rw [hk] at h2
     simp only [kindB] at h2
     split at h2
     ·rename_i fields hu
      obtain ⟨k1, k2⟩ := fieldsB_ok _ _ h2
      exact ⟨fields, hu, k1, fun f off sz b hf => ⟨by
       obtain ⟨fd, a1, a2⟩ := k2 f off sz b hf
       exact ⟨fd, by simpa using a1, a2⟩⟩⟩
     ·cases h2
end Go.Ev
/- What a law is given: arguments that read as data read as trees. -/
namespace Go.Ev
variable {l : Qy}
def appC (A : Type) : (cs b : List CT) → TupC A cs → Tup b → TupC A (cs ++ b)
 | [], [], x, _ => x
 | [], _ :: _, x, y => (x, y)
 | c :: cs, b, (x, z), y => (x, appC c.ty cs b z y)
def tupApp : (a b : List CT) → Tup a → Tup b → Tup (a ++ b)
 | [], _, _, y => y
 | c :: cs, b, x, y => appC c.ty cs b x y
theorem encR_app {i : Bool} : ∀ (cs b : List CT) (c : CT) (x : TupC c.ty cs) (y : Tup b), encR l i c (cs ++ b) (appC c.ty cs b x y) = encR l i c cs x ++ encL l i b y
 | [], [], c, x, y => rfl
 | [], d :: ds, c, x, y => rfl
 | d :: cs, b, c, (x, z), y => congrArg (encC l i c x :: ·) (encR_app cs b d z y)
theorem encL_app {i : Bool} : ∀ (a b : List CT) (x : Tup a) (y : Tup b), encL l i (a ++ b) (tupApp a b x y) = encL l i a x ++ encL l i b y
 | [], _, _, _ => rfl
 | c :: cs, b, x, y => encR_app cs b c x y
def AllP {α : Type} (p : α → Prop) (xs : List α) : Prop := xs.length ≤ maxLen ∧ ∀ x ∈ xs, p x
def allR (p : (c : CT) → c.ty → Prop) : (cs : List CT) → (c : CT) → TupC c.ty cs → Prop
 | [], c, x => p c x
 | c' :: cs, c, (x, y) => p c x ∧ allR p cs c' y
def allL (p : (c : CT) → c.ty → Prop) : (cs : List CT) → Tup cs → Prop
 | [], _ => True
 | c :: cs, x => allR p cs c x
def goodC : Nat → (c : CT) → c.ty → Prop
 | _, .int k, n => (Lit.int k n).wf = true
 | _, .bool, _ => True
 | _, .str, s => ByteArray.size s ≤ maxLen
 | 0, .sl _ _, _ => True
 | d + 1, .sl _ cs, xs => AllP (α := Tup cs) (allL (goodC d) cs) xs
def goodL (cs : List CT) (x : Tup cs) : Prop := ∀ d, allL (goodC d) cs x
theorem allR_app {p : (c : CT) → c.ty → Prop} : ∀ (cs b : List CT) (c : CT) (x : TupC c.ty cs) (y : Tup b), allR p cs c x → allL p b y → allR p (cs ++ b) c (appC c.ty cs b x y)
 | [], [], c, x, _, h, _ => h
 | [], d :: ds, c, x, y, h, k => ⟨h, k⟩
 | d :: cs, b, c, (x, z), y, h, k => ⟨h.1, allR_app cs b d z y h.2 k⟩
theorem goodL_app : ∀ (a b : List CT) (x : Tup a) (y : Tup b), goodL a x → goodL b y → goodL (a ++ b) (tupApp a b x y)
 | [], _, _, _, _, k => k
 | c :: cs, b, x, y, h, k => fun d => allR_app cs b c x y (h d) (k d)
mutual
def rdB (P : Program) (l : Qy) : Nat → TypeId → List CT → Bool
 | 0, _, _ => false
 | f + 1, t, cts => (P.cellsOf t).beq cts.length && match P.underlying t with
  | some .bool => (match cts with | [.bool] => true | _ => false)
  | some (.int k) => (match cts with | [.int k'] => decide (k = k') | _ => false)
  | some .string => (match cts with | [.str] => true | _ => false)
  | some (.slice e) => (match cts with | [.sl e' cs] => e.beq e' && (match eqL cs (QR l e) with | some _ => true | none => false) && rdB P l f e cs | _ => false)
  | some (.struct fs) => rdF P l f 0 fs.toList cts
  | _ => false
def rdF (P : Program) (l : Qy) : Nat → Nat → List Field → List CT → Bool
 | 0, _, _, _ => false
 | _ + 1, _, [], cts => (match cts with | [] => true | _ => false)
 | f + 1, off, fd :: r, cts => fd.offset.beq off && Nat.ble (P.cellsOf fd.type) cts.length && rdB P l f fd.type (cts.take (P.cellsOf fd.type)) && rdF P l f (off + P.cellsOf fd.type) r (cts.drop (P.cellsOf fd.type))
end
section
variable {H : Type} {enc : TypeId × Value → H} {P : Program} {w : World} {spare : Nat → Bool} {held : Bool}
theorem read_el (A : Nat → Prop) (hA : ∀ b, b < w.heap.size → A b) : ∀ (f : Nat),
  (∀ (t : TypeId) (cts : List CT), rdB P l f t cts = true → ∀ (fuel : Nat) (cs : List Value) (x : DataW H × List MemPlace), DataW.trod enc P w 0 spare held fuel t cs = some x → ∃ y : Tup cts, RoL (KT l) w A (encL l false cts y) cs ∧ goodL cts y) ∧
  (∀ (off : Nat) (r : List Field) (cts : List CT), rdF P l f off r cts = true → ∀ (n : Nat) (cs : List Value) (xs : List (DataW H × List MemPlace)), cs.length = off + cts.length →
   (∀ (i : Nat) (fd : Field), r[i]? = some fd → ∃ x, DataW.trod enc P w 0 spare held n fd.type ((cs.drop fd.offset).take (P.cellsOf fd.type)) = some x) → ∃ y : Tup cts, RoL (KT l) w A (encL l false cts y) (cs.drop off) ∧ goodL cts y) := by
 intro f
 induction f with
 | zero => exact ⟨fun t cts h => absurd h (by simp [rdB]), fun off r cts h => absurd h (by simp [rdF])⟩
 | succ f ih =>
  refine ⟨fun t cts h fuel cs x hx => ?_, fun off r cts h n cs xs hl hf => ?_⟩
  ·simp only [rdB, Z4] at h
   obtain ⟨hc, h⟩ := h
   have hc := beq_eq hc
   split at h
   ·rename_i hu
    split at h
    ·obtain ⟨b, rfl, _⟩ := DataW.trod_bool hu hx
     exact ⟨(b : Bool), .cons (.bool b) .nil, fun d => by cases d <;> trivial⟩
    ·cases h
   ·rename_i k hu
    split at h
    ·rename_i k'
     have := of_decide_eq_true h
     subst this
     obtain ⟨n, rfl, _, hw⟩ := DataW.trod_int hu hx
     exact ⟨(n : Int), .cons (.int _ n) .nil, fun d => by cases d <;> exact hw⟩
    ·cases h
   ·rename_i hu
    split at h
    ·obtain ⟨s, rfl, _, hs⟩ := DataW.trod_string hu hx
     exact ⟨(s : ByteArray), .cons (.str s) .nil, fun d => by cases d <;> exact hs⟩
    ·cases h
   ·rename_i e hu
    split at h
    ·rename_i _ e' ccs _
     simp only [Z4] at h
     obtain ⟨⟨h1, h2⟩, h3⟩ := h
     have h1 := beq_eq h1
     subst h1
     cases hq : eqL ccs (QR l e) with
     | none => rw [hq] at h2; cases h2
     | some hh =>
      obtain ⟨hh⟩ := hh
      subst hh
      have enc1 : ∀ xs : List (Tup (QR l e)), encL l false [CT.sl e (QR l e)] xs = [T.sl false false e (xs : List (GT l e))] := by
       intro xs
       show [encC l false (CT.sl e (QR l e)) xs] = _
       simp only [encC, hq]
       rfl
      rcases Go.Deep.open_slice hu hx with ⟨rfl, _⟩ | ⟨a, len, cap, m, n, D, Pl, rfl, hb, hlc, hcm, hm, _, hel⟩
      ·refine ⟨([] : List (Tup (QR l e))), ?_, fun d => by cases d with | zero => trivial | succ d => exact ⟨Z20 _, by simp⟩⟩
       rw [enc1]
       exact .cons (.sl (vs := []) rfl (Z7 _) .nil (by simp)) .nil
      ·have hle : len ≤ m := by rw [hm]; split <;> omega
       have hsz : P.cellsOf e = (QR l e).length := by
        cases f with
        | zero => cases h3
        | succ f => simp only [rdB, Z4] at h3; exact beq_eq h3.1
       -- the elements
       have hex : ∀ k, k ≤ len → ∃ ys : List (Tup (QR l e)), ys.length = k ∧ (∃ vs, RoL (KT l) w A (cells (KT l) false e ys) vs ∧ ∀ j u, vs[j]? = some u → A a.block ∧ w.cell? (a.add j) = some u) ∧ ∀ y ∈ ys, goodL (QR l e) y := by
        intro k
        induction k with
        | zero => intro _; exact ⟨[], rfl, ⟨[], .nil, by simp⟩, by simp⟩
        | succ k ihk =>
         intro hk
         obtain ⟨ys, hy1, ⟨vs, hy2, hy3⟩, hy4⟩ := ihk (by omega)
         obtain ⟨cs', hc1, hc2⟩ := hel k (by omega)
         obtain ⟨y, hr, hg⟩ := ih.1 e (QR l e) h3 n cs' _ hc2
         obtain ⟨_, hc3, hc4⟩ := World.cells?_some hc1
         have hcl : (cells (KT l) false e ys).length = ys.length * (QR l e).length := Q2s (K := KT l) false e ys
         have hvl : vs.length = k * (QR l e).length := by rw [← hy2.length, hcl, hy1]
         refine ⟨ys ++ [y], by simp [hy1], ⟨vs ++ cs', ?_, fun j u hj => ?_⟩, fun z hz => ?_⟩
         ·have h1 : cells (KT l) false e (ys ++ [y]) = cells (KT l) false e ys ++ cells (KT l) false e [y] := Q3u (K := KT l) false e ys [y]
          have h2 : cells (KT l) false e [y] = encL l false (QR l e) y := cells_one (K := KT l) false e y
          rw [h1, h2]
          exact hy2.append hr
         ·by_cases hjl : j < vs.length
          ·rw [Z94 hjl] at hj
           exact hy3 j u hj
          ·rw [Z76 (by omega)] at hj
           have hj2 : j - vs.length < P.cellsOf e := by
            rcases Z34 (j - vs.length) cs'.length with h | h
            ·omega
            ·rw [Z21 h] at hj; cases hj
           have hcell := hc4 _ hj2
           rw [hj, add_add, hsz, ← hvl, show vs.length + (j - vs.length) = j by omega] at hcell
           refine ⟨hA _ ?_, hcell⟩
           have := World.block_lt_of_cell? w _ hcell
           rwa [add_block] at this
         ·rcases Z26.1 hz with hz | hz
          ·exact hy4 z hz
          ·rw [Z38.1 hz]; exact hg
       obtain ⟨ys, hy1, ⟨vs, hy2, hy3⟩, hy4⟩ := hex len (Z7 _)
       refine ⟨ys, ?_, fun d => by cases d with | zero => trivial | succ d => exact ⟨by show ys.length ≤ maxLen; omega, fun y hy => hy4 y hy d⟩⟩
       rw [enc1]
       exact .cons (.sl hy1.symm hlc hy2 fun j u hj => ⟨a, rfl, hy3 j u hj⟩) .nil
    ·cases h
   ·rename_i fs hu
    obtain ⟨xs, n, rfl, _, hl, hxl, hf⟩ := DataW.trod_struct hu hx
    obtain ⟨y, hy1, hy2⟩ := ih.2 0 fs.toList cts h n cs xs (by omega) (fun i fd hi => by
     have hi' : fs[i]? = some fd := by simpa using hi
     have := hf i fd hi'
     have hlt : i < xs.length := by
      rw [hxl]
      rcases Z34 i fs.size with h | h
      ·exact h
      ·rw [Array.getElem?_eq_none h] at hi'; cases hi'
     rw [Z3 hlt] at this
     exact ⟨_, this⟩)
    exact ⟨y, by simpa using hy1, hy2⟩
   ·cases h
  ·cases r with
   | nil =>
    simp only [rdF] at h
    split at h
    ·refine ⟨(), ?_, fun _ => trivial⟩
     rw [Z53 (by simp at hl; omega)]
     exact .nil
    ·cases h
   | cons fd r =>
    simp only [rdF, Z4] at h
    obtain ⟨⟨⟨h1, h2⟩, h3⟩, h4⟩ := h
    have h1 := beq_eq h1
    have h2 := Q2i h2
    obtain ⟨x, hx⟩ := hf 0 fd rfl
    rw [h1] at hx
    obtain ⟨y1, hr1, hg1⟩ := ih.1 _ _ h3 n _ x hx
    obtain ⟨y2, hr2, hg2⟩ := ih.2 _ r _ h4 n cs xs (by rw [Z19]; omega) (fun i fd' hi => hf (i + 1) fd' (by simpa using hi))
    have hcat : cts.take (P.cellsOf fd.type) ++ cts.drop (P.cellsOf fd.type) = cts := Z82 _ _
    have hres : ∃ y : Tup (cts.take (P.cellsOf fd.type) ++ cts.drop (P.cellsOf fd.type)), RoL (KT l) w A (encL l false _ y) (cs.drop off) ∧ goodL _ y := by
     refine ⟨tupApp _ _ y1 y2, ?_, goodL_app _ _ _ _ hg1 hg2⟩
     rw [encL_app]
     have e : cs.drop off = (cs.drop off).take (P.cellsOf fd.type) ++ cs.drop (off + P.cellsOf fd.type) := by
      rw [← Z96, Z82]
     rw [e]
     exact hr1.append hr2
    rw [hcat] at hres
    exact hres
end
end Go.Ev
/- A law: its arguments read as data; it returns true; what was there stays. -/
namespace Go.Ev
variable {l : Qy}
def ctOf (l : Qy) : Cl → CT
 | .int k => .int k
 | .bool => .bool
 | .str => .str
 | .sl _ _ e => .sl e (QR l e)
def notOwn : Cl → Bool
 | .sl o i _ => !o && !i
 | _ => true
def goodCl (l : Qy) : (s : Cl) → s.ty l → Prop
 | .int k, n => (Lit.int k n).wf = true
 | .bool, _ => True
 | .str, s => ByteArray.size s ≤ maxLen
 | .sl _ _ e, xs => AllP (α := Tup (QR l e)) (allL (goodC 4) (QR l e)) xs
section
variable {α : Type} {B : Type}
def goodPC (ty : α → Type) (Q : (s : α) → ty s → Prop) (A : Type) (q : A → Prop) : (ss : List α) → PrC ty A ss → Prop
 | [], x => q x
 | s :: ss, (x, y) => q x ∧ goodPC ty Q (ty s) (Q s) ss y
def goodP (ty : α → Type) (Q : (s : α) → ty s → Prop) : (ss : List α) → Pr ty ss → Prop
 | [], _ => True
 | s :: ss, x => goodPC ty Q (ty s) (Q s) ss x
inductive AllOf (ty : α → Type) (e : (s : α) → ty s → B) (Q : (s : α) → ty s → Prop) : List α → List B → Prop
 | nil : AllOf ty e Q [] []
 | cons {s ss b bs} (y : ty s) (he : e s y = b) (hq : Q s y) (k : AllOf ty e Q ss bs) : AllOf ty e Q (s :: ss) (b :: bs)
theorem prC_ex {ty : α → Type} {e : (s : α) → ty s → B} {Q : (s : α) → ty s → Prop} : ∀ (ss : List α) (bs : List B), AllOf ty e Q ss bs → ∀ (A : Type) (f : A → B) (q : A → Prop) (a : A), q a → ∃ x : PrC ty A ss, encPC ty e A f ss x = f a :: bs ∧ goodPC ty Q A q ss x
 | [], _, .nil, A, f, q, a, h => ⟨a, rfl, h⟩
 | s :: ss, _, .cons y he hq k, A, f, q, a, h => by
  obtain ⟨x, h1, h2⟩ := prC_ex ss _ k (ty s) (e s) (Q s) y hq
  refine ⟨((a, x) : A × PrC ty (ty s) ss), ?_, h, h2⟩
  show f a :: encPC ty e (ty s) (e s) ss x = _
  rw [h1, he]
theorem pr_ex {ty : α → Type} {e : (s : α) → ty s → B} {Q : (s : α) → ty s → Prop} : ∀ (ss : List α) (bs : List B), AllOf ty e Q ss bs → ∃ x : Pr ty ss, encP ty e ss x = bs ∧ goodP ty Q ss x
 | [], _, .nil => ⟨(), rfl, trivial⟩
 | s :: ss, _, .cons y he hq k => by
  obtain ⟨x, h1, h2⟩ := prC_ex ss _ k (ty s) (e s) (Q s) y hq
  exact ⟨x, by rw [← he]; exact h1, h2⟩
end
theorem eqL_self : ∀ (a b : List CT), a = b → ∃ h, eqL a b = some h := by
 have key : ∀ n, (∀ c : CT, SizeOf.sizeOf c < n → ∃ h, eqC c c = some h) ∧ (∀ cs : List CT, SizeOf.sizeOf cs < n → ∃ h, eqL cs cs = some h) := by
  intro n
  induction n with
  | zero => exact ⟨fun c h => absurd h (Z93 _), fun c h => absurd h (Z93 _)⟩
  | succ n ih =>
   refine ⟨fun c hc => ?_, fun cs hc => ?_⟩
   ·cases c with
    | int k => exact ⟨⟨rfl⟩, by simp only [eqC]; rfl⟩
    | bool => exact ⟨⟨rfl⟩, by simp only [eqC]⟩
    | str => exact ⟨⟨rfl⟩, by simp only [eqC]⟩
    | sl e cs =>
     obtain ⟨h, hh⟩ := ih.2 cs (by simp only [CT.sl.sizeOf_spec] at hc; omega)
     obtain ⟨h⟩ := h
     exact ⟨⟨rfl⟩, by simp only [eqC, hh]; rfl⟩
   ·cases cs with
    | nil => exact ⟨⟨rfl⟩, by simp only [eqL]⟩
    | cons c cs =>
     simp only [List.cons.sizeOf_spec] at hc
     obtain ⟨h, hh⟩ := ih.1 c (by omega)
     obtain ⟨k, hk⟩ := ih.2 cs (by omega)
     obtain ⟨h⟩ := h
     obtain ⟨k⟩ := k
     exact ⟨⟨rfl⟩, by simp only [eqL, hh, hk]⟩
 intro a b hab
 subst hab
 exact (key (SizeOf.sizeOf a + 1)).2 a (Nat.lt_succ_self _)
theorem cl_of : ∀ (s : Cl), notOwn s = true → ∀ (y : (ctOf l s).ty), (∀ d, goodC d (ctOf l s) y) → ∃ z : s.ty l, encCl l s z = encC l false (ctOf l s) y ∧ goodCl l s z
 | .int k, _, y, h => ⟨y, rfl, h 0⟩
 | .bool, _, y, h => ⟨y, rfl, trivial⟩
 | .str, _, y, h => ⟨y, rfl, h 0⟩
 | .sl o i e, hn, y, h => by
  simp only [notOwn, Z4, Bool.not_eq_true'] at hn
  obtain ⟨rfl, rfl⟩ := hn
  refine ⟨(y : List (Tup (QR l e))), ?_, h 5⟩
  obtain ⟨hh, hq⟩ := eqL_self (QR l e) (QR l e) rfl
  obtain ⟨hh⟩ := hh
  simp only [ctOf, encC, hq]
  rfl
theorem clsR_of : ∀ (ss : List Cl), ss.all notOwn = true → ∀ (s : Cl), notOwn s = true → ∀ (y : TupC (ctOf l s).ty (ss.map (ctOf l))), (∀ d, allR (goodC d) (ss.map (ctOf l)) (ctOf l s) y) → AllOf (Cl.ty l) (encCl l) (goodCl l) (s :: ss) (encR l false (ctOf l s) (ss.map (ctOf l)) y)
 | [], _, s, hs, y, h => by
  obtain ⟨z, h1, h2⟩ := cl_of s hs y h
  exact .cons z h1 h2 .nil
 | s' :: ss, hn, s, hs, (y, ys), h => by
  rw [Z97, Z4] at hn
  obtain ⟨z, h1, h2⟩ := cl_of s hs y (fun d => (h d).1)
  exact .cons z h1 h2 (clsR_of ss hn.2 s' hn.1 ys fun d => (h d).2)
theorem cls_of : ∀ (ss : List Cl), ss.all notOwn = true → ∀ (y : Tup (ss.map (ctOf l))), goodL (ss.map (ctOf l)) y → AllOf (Cl.ty l) (encCl l) (goodCl l) ss (encL l false (ss.map (ctOf l)) y)
 | [], _, _, _ => .nil
 | s :: ss, hn, y, h => by
  rw [Z97, Z4] at hn
  exact clsR_of ss hn.2 s hn.1 y h
def goodV (l : Qy) : (s : VSh) → s.ty l → Prop
 | .one (.b (.b (.b (.b c)))), y => goodCl l c y
 | .one _, _ => True
 | .agg ss, y => goodP (Cl.ty l) (goodCl l) ss y
abbrev goodA (l : Qy) (as : List VSh) (x : Args l as) : Prop := goodP (VSh.ty l) (goodV l) as x
def argB (P : Program) (l : Qy) (t : TypeId) : VSh → Bool
 | .one (.b (.b (.b (.b c)))) => notOwn c && rdB P l 40 t [ctOf l c] && match P.underlying t with | some .bool => true | some (.int _) => true | some .string => true | some (.slice _) => true | _ => false
 | .agg ss => ss.all notOwn && rdB P l 40 t (ss.map (ctOf l)) && match P.underlying t with | some (.struct _) => true | _ => false
 | _ => false
def argsB (P : Program) (l : Qy) : List TypeId → List VSh → Bool
 | [], as => match as with | [] => true | _ => false
 | t :: ts, as => match as with | a :: as => argB P l t a && argsB P l ts as | [] => false
section
variable {H : Type} {enc : TypeId × Value → H} {P : Program} {w : World} {spare : Nat → Bool} {held : Bool}
theorem ro_own {K : Cod (GT l)} {A : Nat → Prop} {t : T (GT l)} {v : Value} (h : Ro K w A t v) (hp : t.plain = true) : Own K w A t v [] := by
 cases h with
 | int k n => exact .int k n
 | bool b => exact .bool b
 | str s => exact .str s
 | @sl own inner e xs a n cap vs h1 h2 h3 h4 =>
  cases own with
  | true => cases hp
  | false => exact .ro (.sl h1 h2 h3 h4)
 | @ptr own t cs a vs h1 h2 =>
  cases own with
  | true => cases hp
  | false => exact .ptrRo (.ptr h1 h2)
 | fn h => exact .fn (.fn h)
theorem roL_own {K : Cod (GT l)} {A : Nat → Prop} : ∀ {ts : List (T (GT l))} {vs : List Value}, RoL K w A ts vs → (∀ t ∈ ts, t.plain = true) → OwnL K w A ts vs []
 | _, _, .nil, _ => .nil
 | _, _, .cons h k, hp => OwnL.cons (L := []) (ro_own h (hp _ (by simp))) (roL_own k fun t ht => hp t (by simp [ht]))
theorem one_cells {r : Reach} {base : Nat} {t : TypeId} {v : Value} (hk : Value.okWide P w r base t v) (h : (match P.underlying t with | some .bool => true | some (.int _) => true | some .string => true | some (.slice _) => true | _ => false) = true) : v.cells.toList = [v] := by
 unfold Value.okWide at hk
 split at h
 ·rename_i hu; rw [hu] at hk; cases v <;> simp_all [Cell.okWide, Cell.ok, Value.cells]
 ·rename_i hu; rw [hu] at hk; cases v <;> simp_all [Cell.okWide, Cell.ok, Value.cells]
 ·rename_i hu; rw [hu] at hk; cases v <;> simp_all [Cell.okWide, Cell.ok, Value.cells]
 ·rename_i hu; rw [hu] at hk; cases v <;> simp_all [Cell.okWide, Cell.ok, Value.cells]
 ·cases h
theorem arg_read (A : Nat → Prop) (hA : ∀ b, b < w.heap.size → A b) {t : TypeId} {s : VSh} (hb : argB P l t s = true) {r : Reach} {base : Nat} {v : Value} {d : DataW H} {ps : List MemPlace} (h : DataW.Trod enc P w 0 spare held t v d ps) (hk : Value.okWide P w r base t v) :
  ∃ y : s.ty l, TvR (KT l) w A (encV l s y) v [] ∧ goodV l s y := by
 obtain ⟨fuel, hf⟩ := h
 match s, hb with
 | .one (.b (.b (.b (.b c)))), hb =>
  simp only [argB, Z4] at hb
  obtain ⟨⟨h1, h2⟩, h3⟩ := hb
  obtain ⟨y, hy1, hy2⟩ := (read_el A hA 40).1 t _ h2 fuel _ _ hf
  rw [one_cells hk h3] at hy1
  obtain ⟨z, hz1, hz2⟩ := cl_of c h1 y hy2
  refine ⟨z, ?_, hz2⟩
  obtain ⟨u, hu, hr⟩ := RoL.inv1.1 hy1
  obtain rfl : v = u := by simpa using hu
  show TvR (KT l) w A (.one (encCl l c z)) v []
  rw [hz1]
  exact .one (ro_own hr (plainC _ y))
 | .agg ss, hb =>
  simp only [argB, Z4] at hb
  obtain ⟨⟨h1, h2⟩, h3⟩ := hb
  obtain ⟨y, hy1, hy2⟩ := (read_el A hA 40).1 t _ h2 fuel _ _ hf
  obtain ⟨z, hz1, hz2⟩ := pr_ex ss _ (cls_of ss h1 y hy2)
  refine ⟨z, ?_, hz2⟩
  split at h3
  ·rename_i fs hu
   unfold Value.okWide at hk
   rw [hu] at hk
   obtain ⟨cs, rfl, _, _⟩ := hk
   show TvR (KT l) w A (.agg (encP (Cl.ty l) (encCl l) ss z)) (.agg cs) []
   rw [hz1]
   have := roL_own hy1 (plainLE _ y)
   have := TvR.agg this
   simpa [Value.cells] using this
  ·cases h3
theorem args_read (A : Nat → Prop) (hA : ∀ b, b < w.heap.size → A b) {r : Reach} {base : Nat} : ∀ {ts : List TypeId} {as : List VSh}, argsB P l ts as = true → ∀ {vs : List Value} {ds : List (DataW H)} {ps : List MemPlace}, DataW.TrodAll enc P w 0 spare held ts vs ds ps → (∀ (j : Nat) t v, ts[j]? = some t → vs[j]? = some v → Value.okWide P w r base t v) →
  ∃ bs, AllOf (VSh.ty l) (encV l) (goodV l) as bs ∧ TvRs (KT l) w A bs vs []
 | [], as, hb, vs, ds, ps, h, hk => by
  cases as with
  | cons => cases hb
  | nil =>
   cases vs with
   | cons => exact h.elim
   | nil => exact ⟨[], .nil, .nil⟩
 | t :: ts, as, hb, vs, ds, ps, h, hk => by
  cases as with
  | nil => cases hb
  | cons a as =>
   simp only [argsB, Z4] at hb
   cases vs with
   | nil => exact h.elim
   | cons v vs =>
    cases ds with
    | nil => exact h.elim
    | cons d ds =>
     obtain ⟨p, q, h1, h2, _⟩ := h
     obtain ⟨y, hy1, hy2⟩ := arg_read A hA hb.1 h1 (hk 0 t v rfl rfl)
     obtain ⟨bs, hb1, hb2⟩ := args_read A hA hb.2 h2 fun j t v h h' => hk (j + 1) t v (by simpa using h) (by simpa using h')
     exact ⟨_, .cons y rfl hy2 hb1, TvRs.cons (L := []) hy1 hb2⟩
end
theorem trod_length {H : Type} {enc : TypeId × Value → H} {P : Program} {w : World} {base : Nat} {spare : Nat → Bool} {held : Bool} : ∀ {ts : List TypeId} {vs : List Value} {ds : List (DataW H)} {ps : List MemPlace}, DataW.TrodAll enc P w base spare held ts vs ds ps → ds.length = ts.length
 | [], [], [], _, _ => rfl
 | [], [], _ :: _, _, h => h.elim
 | [], _ :: _, _, _, h => h.elim
 | _ :: _, [], _, _, h => h.elim
 | _ :: _, _ :: _, [], _, h => h.elim
 | _ :: _, _ :: _, _ :: _, _, h => by
  obtain ⟨p, q, _, h2, _⟩ := h
  simp [trod_length h2]
def readB (P : Program) (ts : List TypeId) : Bool := ts.all fun t => P.readableRec t && Nat.blt t P.types.size
theorem back_all {H : Type} {enc : TypeId × Value → H} {P : Program} (hl : laidOutB P = true) {W W' : World} (hb : Go.RowKit.Below W.heap.size W W') : ∀ {ts : List TypeId}, readB P ts = true → ∀ {vs : List Value} {ds : List (DataW H)} {ps : List MemPlace}, DataW.TrodAll enc P W 0 (fun _ => true) true ts vs ds ps → DataW.TrodAll enc P W' 0 (fun b => decide (b < W.heap.size)) true ts vs ds ps
 | [], _, [], [], ps, h => h
 | [], _, [], _ :: _, ps, h => h.elim
 | [], _, _ :: _, _, ps, h => h.elim
 | t :: ts, hr, [], _, ps, h => h.elim
 | t :: ts, hr, _ :: _, [], ps, h => h.elim
 | t :: ts, hr, v :: vs, d :: ds, ps, h => by
  obtain ⟨p, q, h1, h2, h3⟩ := h
  simp only [readB, Z97, Z4] at hr
  have hlt : ∀ x ∈ p, x.block < W.heap.size := by obtain ⟨m, hm⟩ := h1; exact DataW.trod_lt m _ _ _ hm
  exact ⟨p, q, Go.RowKit.Below.trod hl hr.1.1 (by simpa [Nat.blt_eq] using hr.1.2) h1 hb hlt, back_all hl hb hr.2 h2, h3⟩
section
variable {P : Program} {H : Type} {enc : TypeId × Value → H}
theorem law_calls {modes : List Mode} {as : List VSh} {r : RSh} {c : Ctx (GT l) (KT l) (ResT l r)} (hmx : P.follows .mixedOrders = true) (hty : TyOk P (KT l) c.X c.ty) (hG : ∀ f cal, c.G f = some cal → Con P (KT l) f cal) {f : FuncId} {fn : Func} {body : Code} (hf : FnOk P f fn modes body) (hk : c.keep = keepOf 0 modes) (hm : modes.length = as.length)
  {F : Args l as → Option (ResT l r)} (hF : ∀ x, F x = callW c (fiOf (GT l) fn modes r) body (decRes l r) (Q2V l as x)) (hlaw : ∀ x, goodA l as x → ∃ y, F x = some y ∧ (Q1M l r y).1 = TV.one (T.bool true)) (hb : argsB P l fn.params.toList as = true)
  {W : World} {reach : Reach} {base : Nat} {args : Array Value} {ds : List (DataW H)} {ps : List MemPlace} {spare : Nat → Bool} {held : Bool} (hval : ∀ (j : Nat) t v, fn.params[j]? = some t → args[j]? = some v → Value.okWide P W reach base t v) (hA : DataW.TrodAll enc P W 0 spare held fn.params.toList args.toList ds ps) :
  Calls P f args W fun e W' => e = .returned (.bool true) ∧ Go.RowKit.Below W.heap.size W W' := by
 obtain ⟨bs, h1, h2⟩ := args_read (l := l) (fun b => b < W.heap.size) (fun _ h => h) hb hA (fun j t v h h' => hval j t v (by simpa using h) (by simpa using h'))
 obtain ⟨x, hx1, hx2⟩ := pr_ex as bs h1
 obtain ⟨y, hy1, hy2⟩ := hlaw x hx2
 rw [hF] at hy1
 have hT : TvRs (KT l) W (fun b => b < W.heap.size) (Q2V l as x) args.toList [] := by rw [show Q2V l as x = bs from hx1]; exact h2
 have := calls_of (fi := fiOf (GT l) fn modes r) hmx hty hG hf.func hf.name hf.body rfl rfl (fun i hi => by rw [hk]; have := keepOf_mem modes 0 i hi; rwa [Z25] at this) hy1 (by show modes.length = _; rw [args_len]; exact hm) hT Z71 (by simp) (fun b h => h)
 rw [Array.toArray_toList] at this
 refine Calls.mono this fun e W' he => ?_
 obtain ⟨v, r', rfl, hd, hp⟩ := he
 refine ⟨?_, hp.os, hp.tape, hp.output, hp.size, fun b hb => hp.block b hb (by simp)⟩
 obtain ⟨A', Lr, Lk, _, _, hr, _⟩ := hp.ex
 rw [← decRes_ok r r' y hd, hy2] at hr
 cases hr with
 | one hr => cases hr with | one hr => cases hr; rfl
end
end Go.Ev
/- Plain words for what the evaluator prints: indices, loops over lists, numbers that fit. -/
namespace Go.Ev
open Go
theorem Q02 {α : Type} (xs : List α) (i : Nat) : at? xs (i : Int) = xs[i]? := by simp [at?]
theorem Q2o {α : Type} (xs : List α) (i : Nat) (h : i < xs.length) : at? xs (i : Int) = some xs[i] := by rw [Q02, Z3 h]
theorem at?_zero {α : Type} (xs : List α) : at? xs 0 = xs[0]? := by simp [at?]
theorem at?_int {α : Type} (xs : List α) (i : Int) (h0 : 0 ≤ i) : at? xs i = xs[i.toNat]? := by simp [at?, h0]
theorem Qa {x : Int} (h1 : -9223372036854775808 ≤ x) (h2 : x ≤ 9223372036854775807) : IntKind.i64.wrap x = x := IntWalk.i64_in x ⟨h1, h2⟩
theorem wrapU {x : Int} (h1 : 0 ≤ x) (h2 : x ≤ 18446744073709551615) : IntKind.u64.wrap x = x := IntWalk.u64_in x ⟨h1, h2⟩
theorem wrapB {x : Int} (h1 : 0 ≤ x) (h2 : x ≤ 255) : IntKind.u8.wrap x = x := IntWalk.u8_in x ⟨h1, h2⟩
theorem Q6 (i : Nat) (h : i < 4611686018427387904) : IntKind.i64.wrap ((i : Int) + 1) = ((i + 1 : Nat) : Int) := by
 rw [Qa (by omega) (by omega)]; rfl
theorem wrapUn {z : Nat} (h : z < 2 ^ 64) : IntKind.u64.wrap (z : Int) = z := wrapU (by omega) (by omega)
theorem Q2J {z : Nat} (h : z < 2 ^ 63) : IntKind.i64.wrap (z : Int) = z := Qa (by omega) (by omega)
theorem drop_eq {α : Type} {xs : List α} {i : Nat} {x : α} (h : xs[i]? = some x) : xs.drop i = x :: xs.drop (i + 1) := by
 obtain ⟨hi, rfl⟩ := Z107.1 h
 exact Z27 hi
theorem take_set {α : Type} (acc : List α) (i : Nat) (h : i < acc.length) (z : α) : (acc.set i z).take (i + 1) = acc.take i ++ [z] := by
 rw [Z48, List.take_set, List.set_eq_of_length_le (by rw [Z8]; omega)]
 simp [h]
theorem all_loop {α : Type} (p : α → Bool) (xs : List α) (F : Int → Option Bool) (h1 : ∀ (i : Nat) (h : i < xs.length), F i = bif p xs[i] then F ((i + 1 : Nat) : Int) else some false) (h0 : F (xs.length : Nat) = some true) : F 0 = some (xs.all p) := by
 have key : ∀ (d i : Nat), xs.length - i = d → i ≤ xs.length → F i = some ((xs.drop i).all p) := by
  intro d
  induction d with
  | zero =>
   intro i hd hi
   have e : i = xs.length := by omega
   rw [e, h0, Z74]; rfl
  | succ d ih =>
   intro i hd hi
   have hlt : i < xs.length := by omega
   rw [h1 i hlt, ih (i + 1) (by omega) (by omega), Z27 hlt, Z97]
   cases p xs[i] <;> rfl
 have := key xs.length 0 (by omega) (by omega)
 simpa using this
theorem find_loop {α : Type} (p : α → Bool) (t : α → Option Bool) (xs : List α) (hn : xs.length < 4611686018427387904) (ht : ∀ x ∈ xs, t x = some (p x)) (F : Int → Option Int)
  (heq : ∀ i : Int, F i = bif decide (i < (xs.length : Int)) then (at? xs i).bind fun y => (t y).bind fun b => bif b then some i else F (IntKind.i64.wrap (i + 1)) else some (-1)) :
  ∃ r, F 0 = some r ∧ decide (r ≥ 0) = xs.any p := by
 have key : ∀ (d i : Nat), xs.length - i = d → i ≤ xs.length → ∃ r, F i = some r ∧ decide (r ≥ 0) = (xs.drop i).any p := by
  intro d
  induction d with
  | zero =>
   intro i hd hi
   have e : i = xs.length := by omega
   refine ⟨-1, ?_, ?_⟩
   ·rw [heq, e]; simp
   ·rw [e, Z74]; rfl
  | succ d ih =>
   intro i hd hi
   have hlt : i < xs.length := by omega
   rw [heq, Z27 hlt, List.any_cons]
   simp only [Q2o, hlt, Z0, Q6 i (by omega), Int.ofNat_lt, decide_true, cond_true, ht _ (Z14 hlt)]
   cases p xs[i] with
   | true => exact ⟨i, rfl, by simp⟩
   | false =>
    obtain ⟨r, h1, h2⟩ := ih (i + 1) (by omega) (by omega)
    exact ⟨r, h1, by simpa using h2⟩
 have := key xs.length 0 (by omega) (by omega)
 simpa using this
theorem eq_loop {α : Type} [DecidableEq α] (t : α → α → Option Bool) (xs ys : List α) (hl : xs.length = ys.length) (hn : xs.length < 4611686018427387904) (ht : ∀ x ∈ xs, ∀ y ∈ ys, t x y = some (decide (x = y))) (F : Int → Option Bool)
  (heq : ∀ i : Int, F i = bif decide (i < (xs.length : Int)) then (at? xs i).bind fun x => (at? ys i).bind fun y => (t x y).bind fun b => bif !b then some false else F (IntKind.i64.wrap (i + 1)) else some true) : F 0 = some (decide (xs = ys)) := by
 have key : ∀ (d i : Nat), xs.length - i = d → i ≤ xs.length → F i = some (decide (xs.drop i = ys.drop i)) := by
  intro d
  induction d with
  | zero =>
   intro i hd hi
   have : ¬ ((i : Int) < (xs.length : Int)) := by omega
   rw [heq]
   simp [this, Z53 (show xs.length ≤ i by omega), Z53 (show ys.length ≤ i by omega)]
  | succ d ih =>
   intro i hd hi
   have hlt : i < xs.length := by omega
   have hlt' : i < ys.length := by omega
   rw [heq]
   simp only [Q2o, hlt, hlt', Z0, Q6 i (by omega), Int.ofNat_lt, decide_true, cond_true, ht _ (Z14 hlt) _ (Z14 hlt')]
   rw [ih (i + 1) (by omega) (by omega), Z27 hlt, Z27 hlt']
   by_cases h : xs[i] = ys[i]
   ·simp only [h, List.cons.injEq, true_and, decide_true, Z12, cond_false]
   ·simp only [h, List.cons.injEq, false_and, decide_false, Z62, cond_true]
 have := key xs.length 0 (by omega) (by omega)
 simpa using this
theorem eq_list {α : Type} [DecidableEq α] (xs ys : List α) (F : Option Bool) (h : xs.length = ys.length → F = some (decide (xs = ys))) :
  (bif (xs.length : Int) != (ys.length : Int) then some false else F) = some (decide (xs = ys)) := by
 by_cases hl : xs.length = ys.length
 ·rw [h hl]; simp [hl]
 ·have : xs ≠ ys := fun h => hl (by rw [h])
  have h2 : ((xs.length : Int) != (ys.length : Int)) = true := by simp; omega
  rw [h2]; simp [this]
theorem Q2j {α β : Type} [BEq α] [LawfulBEq α] {a b : α} (h : a ≠ b) (x y : β) : (bif a != b then x else y) = x := by
 have : (a != b) = true := by simp [h]
 rw [this]; rfl
theorem Q20 {α β : Type} [BEq α] [LawfulBEq α] {a b : α} (h : a = b) (x y : β) : (bif a != b then x else y) = y := by
 subst h; simp
theorem Q0w {α β : Type} [BEq α] [LawfulBEq α] {a b : α} (h : a = b) (x y : β) : (bif a == b then x else y) = x := by
 subst h; simp
theorem Q0I {α β : Type} [BEq α] [LawfulBEq α] {a b : α} (h : a ≠ b) (x y : β) : (bif a == b then x else y) = y := by
 have : (a == b) = false := by simp [h]
 rw [this]; rfl
theorem drop_nil {α : Type} (l : List α) {n : Nat} (h : l.length ≤ n) : l.drop n = [] := Z53 h
theorem Q1K {α β : Type} (p : α × β) : (p.1, p.2) = p := rfl
theorem QW {α : Type} (a b : α) : (bif true then a else b) = a := rfl
theorem Qg {α : Type} (a b : α) : (bif false then a else b) = b := rfl
theorem Q2 {α : Type} {p : Prop} [Decidable p] (h : p) (a b : α) : (bif decide p then a else b) = a := by rw [decide_eq_true h]; rfl
theorem Q3 {α : Type} {p : Prop} [Decidable p] (h : ¬ p) (a b : α) : (bif decide p then a else b) = b := by rw [decide_eq_false h]; rfl
end Go.Ev
