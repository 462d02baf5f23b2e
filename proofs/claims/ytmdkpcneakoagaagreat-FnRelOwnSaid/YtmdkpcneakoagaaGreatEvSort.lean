/- The contract of slices.SortFunc at a row of one's own whose elements are numbers. -/
import Derived.Test.YtmdkpcneakoagaaGreatEvC
import Derived.Shelf.SlSortCmp.NoneTotal
set_option linter.unusedSimpArgs false
namespace Go.Ev
open Go.Shelf Go.Proofs Go.Sort
variable {l : Qy} {β : Type}
structure OkSort {α : Type} (F : α → α → Option Int) (xs : List α) : Prop where
 len : xs.length ≤ 1000000000000
 some : ∀ a ∈ xs, ∀ b ∈ xs, (F a b).isSome = true
 irrefl : ∀ a ∈ xs, ¬ (F a a).getD 0 < 0
 trans : ∀ a ∈ xs, ∀ b ∈ xs, ∀ c ∈ xs, (F a b).getD 0 < 0 → (F b c).getD 0 < 0 → (F a c).getD 0 < 0
 ntrans : ∀ a ∈ xs, ∀ b ∈ xs, ∀ c ∈ xs, ¬ (F a b).getD 0 < 0 → ¬ (F b c).getD 0 < 0 → ¬ (F a c).getD 0 < 0
 total : ∀ a ∈ xs, ∀ b ∈ xs, ¬ (F a b).getD 0 < 0 → ¬ (F b a).getD 0 < 0 → a = b
open Classical in
noncomputable def sortC {α : Type} (F : α → α → Option Int) (xs : List α) : Option (List α) :=
 if OkSort F xs then some (xs.mergeSort fun x y => !(decide ((F y x).getD 0 < 0))) else none
theorem CallsF.calls {P : Program} {f : FuncId} {args : Array Value} {w : World} {R : Value → World → Prop} (eg : ∀ args w, (callFunc f args).run P w = .ok (.enter f args) w) (h : CallsF P f args w R) :
  Calls P f args w fun | .returned v, w' => R v w' | _, _ => False := by
 have := h { dst := some 0, op := .panic (.const (.bool false)), type := 0, pos := "", after := #[], guard := none } { tmps := #[undef], defers := [] } (fun a' w' => R (a'.tmps.getD 0 undef) w') (fun _ _ _ => False) (fun v w' hv => by simpa [Act.put] using hv)
 rw [eg, Oper.upon_enter] at this
 refine Calls.mono this fun e w' he => ?_
 cases e with
 | returned v => simpa [Act.put] using he
 | panicked ch => exact he.elim
 | outgrown => obtain ⟨_, _, h⟩ := he; exact h.elim
theorem ownL_ints {K : Cod (GT l)} {w : World} {A : Nat → Prop} {k : IntKind} : ∀ ns : List Int, OwnL K w A (ns.map (T.int k)) (ns.map (Value.int k)) []
 | [] => .nil
 | n :: ns => OwnL.cons (L := []) (.int k n) (ownL_ints ns)
theorem Q4O {α : Type} [Inhabited α] (enc : α → Value) (w : World) (blk m : Nat) (dk : Array α) (os : Array Obj) (b : Nat) (hb : b < w.heap.size) (hne : b ≠ blk) : (sortWorld enc w blk 0 m dk os).heap[b]? = w.heap[b]? := by
 show ((w.heap.modify blk (onCells (putCells enc 0 dk))) ++ os)[b]? = _
 rw [Z110 (by simpa using hb), Array.getElem?_modify, if_neg (Ne.symm hne)]
theorem sortWorld_row {α : Type} [Inhabited α] (enc : α → Value) (w : World) (blk m : Nat) (dk : Array α) (os : Array Obj) {cur : Array Value} {e : TypeId} {fr : Nat × Nat} (hg : w.heap[blk]? = some (.cells cur e fr)) : (sortWorld enc w blk 0 m dk os).heap[blk]? = some (.cells (putCells enc 0 dk cur) e fr) := by
 have hb : blk < w.heap.size := (Z72.1 hg).1
 show ((w.heap.modify blk (onCells (putCells enc 0 dk))) ++ os)[blk]? = _
 rw [Z110 (by simpa using hb), Array.getElem?_modify, if_pos rfl, hg]
 rfl
theorem Q4P {α : Type} [Inhabited α] (enc : α → Value) (w : World) (blk m : Nat) (dk : Array α) (os : Array Obj) : w.heap.size ≤ (sortWorld enc w blk 0 m dk os).heap.size := by
 show _ ≤ ((w.heap.modify blk (onCells (putCells enc 0 dk))) ++ os).size
 simp
theorem world_grown {W w' : World} (h1 : w'.os = W.os) (h2 : w'.tape = W.tape) (h3 : w'.output = W.output) (h4 : W.drawn ≤ w'.drawn) (h5 : W.heap.size ≤ w'.heap.size) (h6 : ∀ b, b < W.heap.size → w'.heap[b]? = W.heap[b]?) : ∃ q os', w' = grow (W.drewN q) os' := by
 refine ⟨w'.drawn - W.drawn, w'.heap.extract W.heap.size w'.heap.size, ?_⟩
 obtain ⟨hp, tp, dr, o, out⟩ := w'
 obtain ⟨hp2, tp2, dr2, o2, out2⟩ := W
 simp only at h1 h2 h3 h4 h5 h6
 subst h1; subst h2; subst h3
 simp only [grow, World.drewN]
 congr 1
 ·apply Array.ext_getElem?
  intro i
  by_cases hi : i < hp2.size
  ·rw [Z110 hi, h6 i hi]
  ·rw [Array.getElem?_append_right (by omega), Array.getElem?_extract]
   by_cases hi2 : i < hp.size
   ·rw [if_pos (by omega)]; congr 1; omega
   ·rw [if_neg (by omega), Array.getElem?_eq_none (by omega)]
 ·omega
theorem RoL.toTvRs {K : Cod (GT l)} {w : World} {A : Nat → Prop} : ∀ {ts : List (T (GT l))} {vs : List Value}, RoL K w A ts vs → (∀ t ∈ ts, t.plain = true) → TvRs K w A (ts.map TV.one) vs []
 | _, _, .nil, _ => .nil
 | _, _, .cons h k, hp => TvRs.cons (L := []) (.one (h.toOwn (hp _ (by simp)))) (k.toTvRs fun t ht => hp t (by simp [ht]))
theorem con_sort {P : Program} {ρ : Go.Shelf.Ren} (L : SlLaysF.n6 P ρ) {f : FuncId} (hf : ρ.f 6 = f) {e : TypeId} {g : GT l e → Int} (hnum : (XT l).num e = some (.i64, g)) {gf : Nat} (eg : ∀ args w, (callFunc gf args).run P w = .ok (.enter gf args) w)
  {cv : VSh} {capsT : cv.ty l → List (T (GT l))} (hcap : ∀ y, encV l cv y = .one (.fn gf (capsT y))) (hplain : ∀ y, ∀ t ∈ capsT y, t.plain = true) {cal : Callee (GT l) (Res (GT l))} (hC : Con P (KT l) gf cal) {ks : List (Option (TV (GT l)))} {F : GT l e → GT l e → cv.ty l → Option Int}
  (hF : ∀ a b y, cal.sem (TV.one (T.int .i64 (g a)) :: TV.one (T.int .i64 (g b)) :: (capsT y).map TV.one) some = (F a b y).map fun r => (TV.one (T.int .i64 r), ks)) :
  Con P (KT l) f (Q1Q (β := β) l [.keep, .lend] [.one (.b (.b (.b (.b (.sl true true e))))), cv] ⟨[], [some (.one (.b (.b (.b (.b (.sl true true e)))))), none]⟩ (fun x => sortC (fun a b => F a b x.2) x.1)) := by
 subst hf
 refine ⟨?_, fun t g h => nomatch (show (none : Option (TypeId × Nat)) = some (t, g) from h)⟩
 intro tvs k b h
 obtain ⟨x, h1, h2⟩ := Z52.1 h
 obtain ⟨y, h3, h4⟩ := Z52.1 h2
 refine ⟨Q1M l ⟨[], [some (.one (.b (.b (.b (.b (.sl true true e)))))), none]⟩ y, fun k' => by simp only [Q1Q, h1, Z0]; exact congrArg (fun z => Option.bind z fun y => k' (Q1M l ⟨[], [some (.one (.b (.b (.b (.b (.sl true true e)))))), none]⟩ y)) h3, fun w A args Lb hT hnd hL hA => ?_⟩
 rw [← Q3j h1] at hT
 suffices key : ∀ (xs : List (GT l e)) (c : cv.ty l) (ys : List (GT l e)), sortC (fun a b => F a b c) xs = some ys → TvRs (KT l) w A [.one (.sl true true e xs), encV l cv c] args Lb → CallsF P (ρ.f 6) args.toArray w (Post (KT l) w A Lb args (Q1M l ⟨[], [some (.one (.b (.b (.b (.b (.sl true true e)))))), none]⟩ ys)) from key x.1 x.2 y h3 hT
 clear hT h3 h4 h2 h1 h
 intro xs c ys h3 hT
 unfold sortC at h3
 split at h3
 case isFalse => cases h3
 case isTrue hok =>
 cases h3
 rw [hcap] at hT
 cases hT with
 | @cons _ v _ vs L1 L2 ha hr =>
  cases ha with
  | one ha =>
   cases hr with
   | @cons _ u _ us L3 L4 hb2 hr2 =>
    cases hr2
    cases hb2 with
    | one hb2 =>
     cases hb2 with
     | fn hb2 =>
      cases hb2 with
      | @fn _ _ cvs hcvs =>
       cases ha with
       | @sl _ _ _ _ rvs Lc hrow hcl =>
        rw [Q3H hnum] at hcl
        have hrv : rvs = (xs.map g).map (Value.int .i64) := hcl.ints
        subst hrv
        have hLc : Lc = [] := (hcl.shared (by intro t ht; obtain ⟨n, _, rfl⟩ := Z18.1 ht; rfl)).2
        subst hLc
        obtain ⟨nm, hnm, hfn⟩ := L.f6
        refine CallsF.of_calls hfn hnm rfl ?_
        -- what is left
        have fin : ∀ (w' : World), Own (KT l) w' A (.sl true true e (xs.mergeSort fun x y => !(decide ((F y x c).getD 0 < 0)))) v (blk v ++ []) → w'.os = w.os → w'.tape = w.tape → w'.output = w.output → w.drawn ≤ w'.drawn → w.heap.size ≤ w'.heap.size → (∀ b, b < w.heap.size → b ∉ blk v → w'.heap[b]? = w.heap[b]?) →
          Post (KT l) w A (blk v ++ [] ++ ([] ++ [])) [v, .func (.func gf) #[] cvs.toArray] (Q1M l ⟨[], [some (.one (.b (.b (.b (.b (.sl true true e)))))), none]⟩ (xs.mergeSort fun x y => !(decide ((F y x c).getD 0 < 0)))) (.tuple #[]) w' := by
         intro w' q1 q2 q3 q4 q5 q6 q7
         refine ⟨⟨A, [], blk v ++ [] ++ [], fun _ h => h, fun b h => .inl h, .tup .nil, .some (.one q1) (.none .nil), by simpa using hnd, fun b hb => ?_⟩, q2, q3, q4, q5, q6, fun b hb hn => q7 b hb (by simpa using hn)⟩
         have hb' : b ∈ blk v := by simpa using hb
         have := hL b (by simpa using hb')
         exact ⟨by omega, this.2, .inl (by simpa using hb')⟩
        by_cases hx0 : xs = []
        ·subst hx0
         obtain ⟨a, cap, rfl, _⟩ := Q30 hrow
         have hcall := AnyF.slices_SortFunc_none (P := P) (ρ := ρ) { L with } a cap (.func (.func gf) #[] cvs.toArray) w
         refine Calls.mono hcall fun e' w' h => ?_
         obtain ⟨rfl, rfl⟩ := h
         exact fin w' (by simpa using Own.sl hrow hcl) rfl rfl rfl (Z7 _) (Z7 _) (fun _ _ _ => rfl)
        ·have hsz : (KT l).sz e = 1 := num_sz hnum (xs.head hx0)
         obtain ⟨hlen, hrow2⟩ := hrow
         rcases hrow2 with ⟨_, hz⟩ | ⟨bk, cap, cur, rfl, _, hg, hncap, hcm, hcs, htake⟩
         ·exact absurd (Z69 hz) hx0
         haveI : Inhabited {a // a ∈ xs} := ⟨⟨xs.head hx0, List.head_mem hx0⟩⟩
         let enc : {a // a ∈ xs} → Value := fun a => .int .i64 (g a.1)
         let cf : {a // a ∈ xs} → {a // a ∈ xs} → Int := fun a b => (F a.1 b.1 c).getD 0
         let d : Array {a // a ∈ xs} := xs.attach.toArray
         have hd : d.size = xs.length := by simp [d]
         have hbk : bk < w.heap.size := (Z72.1 hg).1
         have hbA : ¬ A bk := (hL bk (by simp [blk])).2
         have hO : SWO (ltOf cf) := ⟨fun x => by simp only [ltOf, decide_eq_false_iff_not]; exact hok.irrefl x.1 x.2,
          fun x y z h1 h2 => by simp only [ltOf, decide_eq_true_eq] at h1 h2 ⊢; exact hok.trans x.1 x.2 y.1 y.2 z.1 z.2 h1 h2,
          fun x y z h1 h2 => by simp only [ltOf, decide_eq_false_iff_not] at h1 h2 ⊢; exact hok.ntrans x.1 x.2 y.1 y.2 z.1 z.2 h1 h2⟩
         have hTt : ∀ x y, (ltOf cf) x y = false → (ltOf cf) y x = false → x = y := fun x y h1 h2 => by
          simp only [ltOf, decide_eq_false_iff_not] at h1 h2
          exact Subtype.ext (hok.total x.1 x.2 y.1 y.2 h1 h2)
         have hH : Holds enc w bk 0 d := by
          intro j hj
          have hjx : j < xs.length := by omega
          rw [hsz, Z83] at htake
          have hc : cur[j]? = some (enc d[j]!) := by
           have h1 : (cur.toList.take xs.length)[j]? = cur[j]? := by rw [Z55, if_pos hjx, Array.getElem?_toList]
           rw [← h1, htake, Z11, Z11, Z3 hjx, getElem!_pos d j hj]
           simp [enc, d]
          refine ⟨?_, ?_⟩
          ·rw [Z25, cell_of_row w bk j cur _ (0, 0) hg]; exact hc
          ·show (match w.heap[bk]? with | some (.cells _ _ (lo, hi)) => decide (lo ≤ 0 + j) && decide (0 + j < hi) | _ => false) = false
           rw [hg]; simp
         have hcmp : CmpLays1 P gf cvs.toArray enc cf bk 0 d.size w := by
          intro m os dk hdk x y
          obtain ⟨W, hW⟩ : ∃ W, W = sortWorld enc w bk 0 m dk os := ⟨_, rfl⟩
          rw [← hW]
          have hs : Same A w W := fun b hb => by rw [hW]; exact Q4O enc w bk m dk os b (hA b hb) (fun h => hbA (h ▸ hb))
          have hT2 : TvRs (KT l) W A (TV.one (T.int .i64 (g x.1)) :: TV.one (T.int .i64 (g y.1)) :: (capsT c).map TV.one) (enc x :: enc y :: cvs) [] :=
           TvRs.cons (L := []) (.one (.int _ _)) (TvRs.cons (L := []) (.one (.int _ _)) ((RoL.frame (fun _ h => h) hs hcvs).toTvRs (hplain c)))
          obtain ⟨r, hr⟩ := Option.isSome_iff_exists.1 (hok.some x.1 x.2 y.1 y.2)
          have hsem := hF x.1 y.1 c
          rw [hr, Z47] at hsem
          obtain ⟨r0, hr0, hcall⟩ := hC.sem _ _ _ hsem
          have e0 := hr0 some
          rw [hsem] at e0
          cases e0
          have := hcall W A _ [] hT2 Z71 (by simp) (fun b hb => by have := hA b hb; have := Q4P enc w bk m dk os; rw [hW]; omega)
          have e1 : #[enc x, enc y] ++ cvs.toArray = (enc x :: enc y :: cvs).toArray := by simp
          rw [e1]
          refine (CallsF.calls eg this).mono fun e' w' h => ?_
          cases e' with
          | panicked ch => exact h.elim
          | outgrown => exact h.elim
          | returned v' =>
           obtain ⟨⟨A', Lr, Lk, p1, p2, p3, p4, p5, p6⟩, o1, o2, o3, o4, o5, o6⟩ := h
           refine ⟨?_, world_grown o1 o2 o3 o4 o5 fun b hb => o6 b hb (by simp)⟩
           cases p3 with
           | one p3 =>
            cases p3 with
            | one p3 =>
             cases p3
             show Ending.returned _ = Ending.returned (.int .i64 ((F x.1 y.1 c).getD 0))
             rw [hr]; rfl
         have hcall := Any.slices_SortFunc_total L enc (fun _ => rfl) cf hO gf cvs.toArray bk 0 cap d w eg hcmp hH hbk (by rw [hd]; have := hok.len; omega) hTt
         rw [hd] at hcall
         refine Calls.mono hcall fun e' w' h => ?_
         obtain ⟨rfl, n, os, hw'⟩ := h
         obtain ⟨sd, hsd⟩ : ∃ sd, sd = (d.toList.mergeSort fun x y => !(ltOf cf) y x).toArray := ⟨_, rfl⟩
         rw [← hsd] at hw'
         have hsl : sd.size = xs.length := by rw [hsd]; simp [d]
         have hys : sd.toList.map Subtype.val = xs.mergeSort fun x y => !(decide ((F y x c).getD 0 < 0)) := by
          rw [hsd]
          have hm := List.map_mergeSort (r := fun x y => !(ltOf cf) y x) (s := fun x y => !(decide ((F y x c).getD 0 < 0))) (f := (Subtype.val : {a // a ∈ xs} → GT l e)) (l := d.toList) (fun a _ b _ => rfl)
          refine hm.trans ?_
          congr 1
          simp [d]
         have hsize := Q4P enc w bk n sd os
         have hrow3 := sortWorld_row enc w bk n sd os hg
         refine fin w' ?_ (by rw [hw']; rfl) (by rw [hw']; rfl) (by rw [hw']; rfl) (by rw [hw']; exact Nat.le_add_right _ _) (by rw [hw']; exact hsize) (fun b hb hn => by rw [hw']; exact Q4O enc w bk n sd os b hb (fun h => hn (by simp [blk, h])))
         rw [← hys]
         have hl2 : (sd.toList.map Subtype.val).length = xs.length := by rw [Z1, Z36, hsl]
         refine Own.sl (v := .slice (some ⟨bk, 0, none⟩) xs.length cap) (vs := ((sd.toList.map Subtype.val).map g).map (Value.int .i64)) (L := []) ?_ (by rw [Q3H hnum]; exact ownL_ints _)
         rw [hl2]
         refine ⟨by rw [Z1, Z1, hl2, hsz, Z83], .inr ⟨bk, cap, putCells enc 0 sd cur, rfl, Z20 _, by rw [hw']; exact hrow3, hncap, hcm, by rw [← hcs]; simp [putCells], ?_⟩⟩
         rw [hsz, Z83]
         rw [hsz, Z83] at hcs
         apply Z75 (by simp [putCells]; omega)
         intro i hi1 hi2
         have hi : i < xs.length := by simp at hi1; omega
         have his : i < sd.size := by omega
         simp [putCells, his, enc]
theorem FnOk.enters {P : Program} {f : FuncId} {fn : Func} {modes : List Mode} {body : Code} (h : FnOk P f fn modes body) (args : Array Value) (w : World) : (callFunc f args).run P w = .ok (.enter f args) w := by
 obtain ⟨hf, hn, hb⟩ := h
 have hn' : ¬ fn.name = "runtime.NumGoroutine" := by simpa using hn
 simp [callFunc, hf, hn', hb]
theorem sem_map {ks : List (Option (TV (GT l)))} {o : Option Int} {s : Option (Res (GT l))} (h : s = o.bind fun r => some (TV.one (T.int .i64 r), ks)) : s = o.map fun r => (TV.one (T.int .i64 r), ks) := by
 subst h; cases o <;> rfl
end Go.Ev
