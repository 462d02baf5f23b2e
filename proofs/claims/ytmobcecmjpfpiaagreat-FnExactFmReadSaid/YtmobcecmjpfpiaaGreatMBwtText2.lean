/- The text of a transform: both walks. -/
import Derived.Test.YtmobcecmjpfpiaaGreatEvC
import Derived.Test.YtmobcecmjpfpiaaGreatPz1
import Derived.Test.YtmobcecmjpfpiaaGreatMBwtText
set_option linter.unusedVariables false
set_option linter.unusedSimpArgs false
namespace Go.Ev.W
open Go.Ev

def tFin (X t : List Nat) : List Int × Bool := bif decide (bwt t = X) then (ints t, true) else ([], false)
theorem ints_inj' {X Y : List Nat} (h : ints X = ints Y) : X = Y := by
  have := congrArg (List.map Int.toNat) h
  unfold ints at this
  rw [List.map_map, List.map_map] at this
  have e : (Int.toNat ∘ fun (x : Nat) => (x : Int)) = id := by funext x; simp
  rw [e, List.map_id, List.map_id] at this
  exact this
theorem dec_ints (X Y : List Nat) : decide (ints X = ints Y) = decide (X = Y) := by
  by_cases h : X = Y
  · rw [h]; simp
  · rw [decide_eq_false h, decide_eq_false fun h2 => h (ints_inj' h2)]
theorem specTail (X t : List Nat) (ht : t.length ≤ 300) (hb : ∀ x ∈ t, x < 256) : ((spec_BwtOf (ints t)).bind fun y2 => (spec_l01Same y2 (ints X)).bind fun y3 => bif !y3 then some (([] : List Int), false) else some (ints t, true)) = some (tFin X t) := by
  rw [specBwt_eq t ht hb, Option.bind_some, same_eq _ _ (by rw [List.length_map, bwt_len]; omega), Option.bind_some, dec_ints]
  unfold tFin
  cases decide (bwt t = X) <;> rfl
theorem specWalk (X : List Nat) (hX : X.length ≤ 301) (hx : ∀ x ∈ X, x ≤ 256) : ∀ (k r : Nat) (acc : List Nat), r < X.length → acc.length + k + 1 = X.length → (∀ x ∈ acc, x < 256) →
    spec_BwtText_l1 (ints X) r acc.length (ints (lfs X)) (ints acc) = some (tFin X (wk X k r acc).1) := by
  have hXl : (ints X).length = X.length := List.length_map ..
  intro k
  induction k with
  | zero =>
    intro r acc hr hl hb
    rw [spec_BwtText_l1.eq, hXl, wrapI (by omega) (by omega), bif_ndec (by omega)]
    exact specTail X acc (by omega) hb
  | succ k ih =>
    intro r acc hr hl hb
    have hg : X.getD r 0 = X[r] := by rw [List.getD_eq_getElem?_getD, List.getElem?_eq_getElem hr]; rfl
    have hxr := hx _ (List.getElem_mem hr)
    rw [spec_BwtText_l1.eq, hXl, wrapI (by omega) (by omega), bif_dec (by omega), at?_ints _ _ hr, Option.bind_some, wk]
    by_cases h0 : X[r] = 0
    · rw [bif_ndec (by omega), if_pos (by rw [hg]; exact h0)]
      exact specTail X acc (by omega) hb
    · have hal : (ints acc).length = acc.length := List.length_map ..
      rw [bif_dec (by omega), if_neg (by rw [hg]; exact h0), spec_BwtText_l2.eq, at?_ints _ _ hr, Option.bind_some, bif_dec (by rw [hal]; simp only [List.length_cons, List.length_nil]; omega), at?_nat, lfs_at X r hr, Option.bind_some, Int.toNat_natCast, lfs_at X r hr, Option.bind_some, wrapS _ (by omega)]
      have e : IntKind.u8.wrap (IntKind.i64.wrap ((X[r] : Int) - 1)) = ((X.getD r 0 - 1 : Nat) : Int) := by
        rw [hg, wrapI (by omega) (by omega), wrapB (by omega) (by omega)]; omega
      have ih' := ih (lfV X r) ((X.getD r 0 - 1) :: acc) (lfV_lt X r hr) (by rw [List.length_cons]; omega) (fun x h2 => by
        rcases List.mem_cons.1 h2 with rfl | h2
        · rw [hg]; omega
        · exact hb x h2)
      rw [List.length_cons] at ih'
      rw [e]
      exact ih'
theorem implTail (X t : List Nat) (ht : t.length ≤ 300) (hb : ∀ x ∈ t, x < 256) : ((impl_bwtOf (ints t)).bind fun y7 => (slices_Equal_int_int y7 (ints X)).bind fun y8 => bif !y8 then some (([] : List Int), false) else some (ints t, true)) = some (tFin X t) := by
  rw [implBwt_eq t ht hb, Option.bind_some, equalI_eq _ _ (by rw [List.length_map, bwt_len]; omega), Option.bind_some, dec_ints]
  unfold tFin
  cases decide (bwt t = X) <;> rfl
theorem implWalk (X : List Nat) (hX : X.length ≤ 301) (hx : ∀ x ∈ X, x ≤ 256) : ∀ (k r : Nat) (acc : List Nat), r < X.length → acc.length + k + 1 = X.length → (∀ x ∈ acc, x < 256) →
    impl_BwtText_l1 (ints X) r ((k : Int) - 1) (ints (lfs X)) (List.replicate k (0 : Int) ++ ints acc) = some (bif (wk X k r acc).2 then tFin X (wk X k r acc).1 else ([], false)) := by
  intro k
  induction k with
  | zero =>
    intro r acc hr hl hb
    rw [impl_BwtText_l1.eq, bif_ndec (by omega)]
    exact implTail X acc (by omega) hb
  | succ k ih =>
    intro r acc hr hl hb
    have hg : X.getD r 0 = X[r] := by rw [List.getD_eq_getElem?_getD, List.getElem?_eq_getElem hr]; rfl
    have hxr := hx _ (List.getElem_mem hr)
    rw [impl_BwtText_l1.eq, show ((k + 1 : Nat) : Int) - 1 = (k : Int) by omega, bif_dec (show (k : Int) ≥ 0 by omega), at?_ints _ _ hr, Option.bind_some, wk]
    by_cases h0 : X[r] = 0
    · rw [bif_eq (by omega), if_pos (by rw [hg]; exact h0)]; rfl
    · have hk : k < (List.replicate (k + 1) (0 : Int) ++ ints acc).length := by rw [List.length_append, List.length_replicate]; omega
      have e : IntKind.u8.wrap (IntKind.i64.wrap ((X[r] : Int) - 1)) = ((X.getD r 0 - 1 : Nat) : Int) := by
        rw [hg, wrapI (by omega) (by omega), wrapB (by omega) (by omega)]; omega
      have hset : ∀ v : Int, (List.replicate (k + 1) (0 : Int) ++ ints acc).set k v = List.replicate k (0 : Int) ++ v :: ints acc := by
        intro v
        rw [List.replicate_succ', List.append_assoc, List.set_append_right _ _ (by rw [List.length_replicate]; omega), List.length_replicate, Nat.sub_self]; rfl
      rw [bif_neq (by omega), if_neg (by rw [hg]; exact h0), Option.bind_some, at?_lt _ k hk, Option.bind_some, Int.toNat_natCast, List.getElem?_eq_getElem hk, Option.bind_some, at?_nat, lfs_at X r hr, Option.bind_some, Int.toNat_natCast, lfs_at X r hr, Option.bind_some, wrapI (x := (k : Int) - 1) (by omega) (by omega), hset, e]
      exact ih (lfV X r) ((X.getD r 0 - 1) :: acc) (lfV_lt X r hr) (by rw [List.length_cons]; omega) (fun x h2 => by
        rcases List.mem_cons.1 h2 with rfl | h2
        · rw [hg]; omega
        · exact hb x h2)
end Go.Ev.W
