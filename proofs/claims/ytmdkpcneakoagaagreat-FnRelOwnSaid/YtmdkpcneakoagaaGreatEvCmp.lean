/- The contract of internal/bytealg.Compare. -/
import Derived.Test.YtmdkpcneakoagaaGreatEvC
import Derived.Lib.BytesEntry
import Derived.Laws.Externs
set_option linter.unusedSimpArgs false
namespace Go.Ev
variable {l : Qy} {β : Type}
theorem bytesOf_run {P : Program} {w : World} {ns : List Int} {v : Value} (h : NumS w .u8 ns v) : (Extern.Bytes.bytesOf v).run P w = .ok ⟨(Go.Lib.bytesOf ns).toArray⟩ w := by
 obtain ⟨a, cap, rfl, h⟩ := h
 cases a with
 | none =>
  have : ns = [] := by
   cases ns with
   | nil => rfl
   | cons n ns => obtain ⟨ad, e, _⟩ := h 0 _ rfl; cases e
  subst this
  rfl
 | some ad =>
  have hl := Go.Lib.run_loadBytesX (P := P) w ns ad .empty fun j x hx => by
   obtain ⟨ad', e, hc⟩ := h j (.int .u8 x) (by rw [Z11, hx]; rfl)
   cases e; exact hc
  refine hl.trans ?_
  congr 1
  apply ByteArray.ext
  show (#[] : Array UInt8) ++ _ = _
  simp
def cmpB (xs ys : List Int) : Int := Go.Lib.compareBytes (Go.Lib.bytesOf xs) (Go.Lib.bytesOf ys)
theorem run_compare {P : Program} {w : World} {xs ys : List Int} {u v : Value} (h : NumS w .u8 xs u) (k : NumS w .u8 ys v) : (Extern.BytealgCompare.compare #[u, v]).run P w = .ok (.int .i64 (cmpB xs ys)) w := by
 change Sem.run P (do pure (goInt (Extern.BytealgCompare.cmp (← Extern.Bytes.bytesOf u) (← Extern.Bytes.bytesOf v)))) w = _
 simp only [Z17, bytesOf_run h, bytesOf_run k, Z24, Z46]
 rw [Go.Lib.cmp_eq]
 rfl
theorem con_compare {P : Program} {f : FuncId} {fn : Func} (hf : P.funcs[f]? = some fn) (hname : (fn.name == "runtime.NumGoroutine") = false) (hb : fn.body.isNone = true) (hn : Extern.findNext fn = none) (he : Extern.find fn = some Extern.BytealgCompare.compare)
  {e : TypeId} {g : GT l e → Int} (hnum : (XT l).num e = some (.u8, g)) :
  Con P (KT l) f (Q1Q (β := β) l [.lend, .lend] [.one (.b (.b (.b (.b (.sl false false e))))), .one (.b (.b (.b (.b (.sl false false e)))))] ⟨[.one (.b (.b (.b (.b (.int .i64)))))], [none, none]⟩ (fun x => some (cmpB (List.map g x.1) (List.map g x.2)))) := by
 refine ⟨?_, fun t g h => nomatch (show (none : Option (TypeId × Nat)) = some (t, g) from h)⟩
 intro tvs k b h
 obtain ⟨x, h1, h2⟩ := Z52.1 h
 obtain ⟨y, h3, h4⟩ := Z52.1 h2
 refine ⟨Q1M l ⟨[.one (.b (.b (.b (.b (.int .i64)))))], [none, none]⟩ y, fun k' => by simp only [Q1Q, h1, Z0]; exact congrArg (fun z => Option.bind z fun y => k' (Q1M l ⟨[.one (.b (.b (.b (.b (.int .i64)))))], [none, none]⟩ y)) h3, fun w A args Lb hT hnd hL hA => ?_⟩
 rw [← Q3j h1] at hT
 cases h3
 have key : ∀ (xs ys : List (GT l e)), TvRs (KT l) w A [.one (.sl false false e xs), .one (.sl false false e ys)] args Lb → CallsF P f args.toArray w (Post (KT l) w A Lb args (Q1M l ⟨[.one (.b (.b (.b (.b (.int .i64)))))], [none, none]⟩ (cmpB (List.map g xs) (List.map g ys)))) := by
  intro xs ys hT
  cases hT with
  | @cons _ v _ vs L1 L2 ha hr =>
   cases ha with
   | one ha =>
    cases hr with
    | @cons _ u _ us L3 L4 hb2 hr2 =>
     cases hr2
     cases hb2 with
     | one hb2 =>
      cases ha with
      | ro ha =>
       cases hb2 with
       | ro hb2 =>
        have n1 := ro_num hnum ha
        have n2 := ro_num hnum hb2
        intro o a next Q hnext
        rw [run_callFunc_extern hf hname hb hn he]
        have hr := run_compare (P := P) n1 n2
        have e1 : ([v, u] : List Value).toArray = #[v, u] := rfl
        rw [e1, hr, Z24, Oper.upon_value]
        refine hnext _ w ⟨⟨A, [], [], fun _ h => h, fun b h => .inl h, .one (.one (.int _ _)), .none (.none .nil), by simp, by simp⟩, rfl, rfl, rfl, Z7 _, Z7 _, fun _ _ _ => rfl⟩
 exact key x.1 x.2 hT
end Go.Ev
