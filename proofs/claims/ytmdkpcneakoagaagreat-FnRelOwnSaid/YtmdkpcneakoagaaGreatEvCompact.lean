/- The contract of slices.Compact at a row of one's own whose elements are strings. -/
import Derived.Test.YtmdkpcneakoagaaGreatEvIterS
import Derived.Shelf.SlicesE.Compact
set_option linter.unusedSimpArgs false
namespace Go.Ev
open Go Go.Shelf Go.Proofs Go.Sort Go.Lib
variable {l : Qy} {β : Type}
def compL {α : Type} [DecidableEq α] [Inhabited α] (xs : List α) : List α := compactUpTo xs.toArray xs.length
def compactC (xs : List ByteArray) : Option (List ByteArray) := bif !xs.isEmpty && decide (xs.length ≤ 1000000000000) then some (compL xs) else none
theorem compL_le {α : Type} [DecidableEq α] [Inhabited α] (xs : List α) : (compL xs).length ≤ xs.length := by
 unfold compL compactUpTo
 rw [Z1]
 exact Z35 (Z102 _ _) (by simp)
theorem eqlS (P : Program) (T : TypeId) : EqlAt P T Value.string (fun x y => decide (x = y)) :=
 ⟨fun x y w => by
  rw [(EqlAt.string P T).1 x y w]
  congr 2
  simp only [ByteArray.toList_eq]
  by_cases h : x = y
  ·subst h; simp
  ·have : x.data ≠ y.data := fun e => h (by cases x; cases y; simp at e; simp [e])
   simp [h, this], (EqlAt.string P T).2⟩
theorem neqS (P : Program) (T : TypeId) : NeqAt P T Value.string (fun x y => decide (x = y)) :=
 ⟨fun x y w => by
  rw [(NeqAt.string P T).1 x y w]
  congr 2
  simp only [ByteArray.toList_eq]
  by_cases h : x = y
  ·subst h; simp
  ·have : x.data ≠ y.data := fun e => h (by cases x; cases y; simp at e; simp [e])
   simp [h, this], (NeqAt.string P T).2⟩
theorem con_compact {P : Program} {ρ : Go.Shelf.Ren} (L : SlLaysE.n43 P ρ) {f : FuncId} (hf : ρ.f 43 = f) {e : TypeId} (he : ρ.t 23 = e) (v23 : ∀ w, (zeroValue (ρ.t 23)).run P w = .ok (.string ⟨#[]⟩) w) {g : GT l e → ByteArray} {h' : ByteArray → GT l e} (hstr : ∀ b x, (KT l).enc e b x = [T.str (g x)]) (hgh : ∀ s, g (h' s) = s) :
  Con P (KT l) f (Q1Q (β := β) l [.give] [.one (.b (.b (.b (.b (.sl true true e)))))] ⟨[.one (.b (.b (.b (.b (.sl true true e)))))], [none]⟩ (fun x => (compactC (List.map g x)).map (List.map h'))) := by
 subst hf; subst he
 refine ⟨?_, fun t g h => nomatch (show (none : Option (TypeId × Nat)) = some (t, g) from h)⟩
 intro tvs k b h
 obtain ⟨x, h1, h2⟩ := Z52.1 h
 obtain ⟨y, h3, h4⟩ := Z52.1 h2
 refine ⟨Q1M l ⟨[.one (.b (.b (.b (.b (.sl true true (ρ.t 23))))))], [none]⟩ y, fun k' => by simp only [Q1Q, h1, Z0]; exact congrArg (fun z => Option.bind z fun y => k' (Q1M l ⟨[.one (.b (.b (.b (.b (.sl true true (ρ.t 23))))))], [none]⟩ y)) h3, fun w A args Lb hT hnd hL hA => ?_⟩
 rw [← Q3j h1] at hT
 suffices key : ∀ (xs ys : List (GT l (ρ.t 23))), (compactC (List.map g xs)).map (List.map h') = some ys → TvRs (KT l) w A [.one (.sl true true (ρ.t 23) xs)] args Lb → CallsF P (ρ.f 43) args.toArray w (Post (KT l) w A Lb args (Q1M l ⟨[.one (.b (.b (.b (.b (.sl true true (ρ.t 23))))))], [none]⟩ ys)) from key x y h3 hT
 clear hT h3 h4 h2 h1 h
 intro xs ys h3 hT
 obtain ⟨zs, h5, rfl⟩ := Option.map_eq_some_iff.1 h3
 clear h3
 unfold compactC at h5
 replace h5 := Q0a h5
 obtain ⟨hc, h5⟩ := h5
 rw [Z4] at hc
 have hlen := of_decide_eq_true hc.2
 rw [Z1] at hlen
 cases h5
 have hx0 : xs ≠ [] := by intro h; subst h; simp at hc
 cases hT with
 | @cons _ v _ vs L1 L2 ha hr =>
  cases hr
  cases ha with
  | one ha =>
   cases ha with
   | @sl _ _ _ _ rvs Lc hrow hcl =>
    rw [str_cells hstr] at hcl
    have hplain : ∀ t ∈ (xs.map g).map (T.str (Γ := GT l)), t.plain = true := by
     intro t ht; obtain ⟨n, _, rfl⟩ := Z18.1 ht; rfl
    obtain ⟨hro, rfl⟩ := hcl.shared hplain
    have hrv : rvs = (xs.map g).map Value.string := hro.strs
    subst hrv
    obtain ⟨nm, hnm, hfn⟩ := L.f43
    refine CallsF.of_calls hfn hnm rfl ?_
    have hsz : (KT l).sz (ρ.t 23) = 1 := by
     have := (KT l).len (ρ.t 23) false (xs.head hx0)
     rw [hstr] at this; simpa using this.symm
    obtain ⟨hlen2, hrow2⟩ := hrow
    rcases hrow2 with ⟨_, hz⟩ | ⟨bk, cap, cur, rfl, _, hg, hncap, hcm, hcs, htake⟩
    ·exact absurd (Z69 hz) hx0
    rw [hsz, Z83] at htake hcs
    obtain ⟨d, hd⟩ : ∃ d : Array ByteArray, d = (xs.map g).toArray := ⟨_, rfl⟩
    have hds : d.size = xs.length := by rw [hd]; simp
    have hbk : bk < w.heap.size := (Z72.1 hg).1
    have hH : Holds Value.string w bk 0 d := by
     intro j hj
     have hjx : j < xs.length := by omega
     have hc : cur[j]? = some (Value.string d[j]!) := by
      have h1 : (cur.toList.take xs.length)[j]? = cur[j]? := by rw [Z55, if_pos hjx, Array.getElem?_toList]
      rw [← h1, htake, Z11, Z11, Z3 hjx, getElem!_pos d j hj]
      simp [hd]
     refine ⟨?_, ?_⟩
     ·rw [Z25, cell_of_row w bk j cur _ (0, 0) hg]; exact hc
     ·show (match w.heap[bk]? with | some (.cells _ _ (lo, hi)) => decide (lo ≤ 0 + j) && decide (0 + j < hi) | _ => false) = false
      rw [hg]; simp
    have hcall := AnyE.slices_Compact L Value.string (fun _ => rfl) (eqlS P _) (neqS P _) ⟨#[]⟩ v23 bk 0 cap d w hH (by rw [hds]; omega) (by rw [hds]; exact hncap)
    rw [hds] at hcall
    have hcomp : compactUpTo d xs.length = compL (xs.map g) := by unfold compL; rw [hd, Z1]
    rw [hcomp] at hcall
    refine Calls.mono hcall fun e' w' h => ?_
    obtain ⟨rfl, q, hw'⟩ := h
    obtain ⟨Z, hZ⟩ : ∃ Z, Z = compL (xs.map g) := ⟨_, rfl⟩
    rw [← hZ] at hw' ⊢
    have hZl : Z.length ≤ xs.length := by rw [hZ]; have := compL_le (xs.map g); rwa [Z1] at this
    obtain ⟨sd, hsd⟩ : ∃ sd, sd = (Z ++ List.replicate (xs.length - Z.length) (⟨#[]⟩ : ByteArray)).toArray := ⟨_, rfl⟩
    rw [← hsd] at hw'
    have hsds : sd.size = xs.length := by rw [hsd]; simp; omega
    have hheap : ∀ b : Nat, w'.heap[b]? = (w.heap.modify bk (onCells (putCells Value.string 0 sd)))[b]? := fun b => by rw [hw']; rfl
    have hrow3 : w'.heap[bk]? = some (.cells (putCells Value.string 0 sd cur) (ρ.t 23) (0, 0)) := by
     rw [hheap, Array.getElem?_modify, if_pos rfl, hg]; rfl
    have hsize : w'.heap.size = w.heap.size := by rw [hw']; show (w.heap.modify bk _).size = _; simp
    have hOwn : Own (KT l) w' A (.sl true true (ρ.t 23) (Z.map h')) (.slice (some ⟨bk, 0, none⟩) Z.length cap) (blk (.slice (some ⟨bk, 0, none⟩) Z.length cap) ++ []) := by
     refine Own.sl (vs := Z.map Value.string) ?_ (by
      rw [str_cells hstr, show (Z.map h').map g = Z by rw [Z23, show (g ∘ h') = id from funext hgh, Z86]]; exact ownL_strs _)
     rw [Z1]
     refine ⟨by rw [Z1, hsz, Z83], .inr ⟨bk, cap, putCells Value.string 0 sd cur, rfl, Z20 _, hrow3, by omega, hcm, by rw [hsz, Z83, ← hcs]; simp [putCells], ?_⟩⟩
     rw [hsz, Z83]
     apply Z75 (by simp [putCells]; omega)
     intro i hi1 hi2
     have hi : i < Z.length := by simp at hi2; exact hi2
     have his : i < sd.size := by omega
     have hsi : sd[i] = Z[i] := by
      simp only [hsd, List.getElem_toArray]
      rw [List.getElem_append_left hi]
     simp [putCells, his, hsi]
    refine ⟨⟨A, blk (.slice (some ⟨bk, 0, none⟩) Z.length cap) ++ [], [], fun _ h => h, fun b h => .inl h, .one (.one hOwn), .none .nil, by simp [blk], fun b hb => ?_⟩, by rw [hw']; rfl, by rw [hw']; rfl, by rw [hw']; rfl, by rw [hw']; exact Nat.le_add_right _ _, by rw [hsize]; exact Z7 _, fun b hb hn => ?_⟩
    ·have hb' : b = bk := by simpa [blk] using hb
     subst hb'
     have := hL b (by simp [blk])
     exact ⟨by omega, this.2, .inl (by simp [blk])⟩
    ·rw [hheap, Array.getElem?_modify, if_neg (fun e => hn (by simp [blk, e]))]
end Go.Ev
