/- FnRelOwn: facts about the program that the row asks for. -/
import Derived.Test.YtmdkpcneakoagaaGreatRows
import Derived.Test.YtmdkpcneakoagaaGreatProg
import Derived.KernelRfl
import Derived.JoinedOf
namespace Go.Proofs.YtmdkpcneakoagaaGreat.fnRelOwn
open Go.ChangeShapes Go.WideShapes
theorem and_i {a b : Bool} (h : a = true) (g : b = true) : (a && b) = true := by rw [h, g]; rfl
theorem w1 : Tryz.pinned.checked.prog.funcNamed Rows.fnRelOwnRow.func = some 3 := by kernel_rfl
set_option maxHeartbeats 4000000 in
theorem w2 : joinedFacts Tryz.pinned.checked.prog 3 Tryz.f3 Rows.fnRelOwnSpec Rows.fnRelOwnRow = true := by
  unfold joinedFacts
  repeat' (with_reducible apply and_i)
  all_goals decide +kernel
theorem w3 : Tryz.f3.isInstance Tryz.pinned.checked.prog Rows.fnRelOwnRow.origin Rows.fnRelOwnRow.targs := of_decide_eq_true (by kernel_rfl)
theorem w4 : Tryz.f3.isWrapper Tryz.pinned.checked.prog Rows.fnRelOwnRow.wrapper Rows.fnRelOwnRow.mainSum := by
  unfold Func.isWrapper
  first | (rw [if_pos (by decide +kernel)]; kernel_rfl) | (rw [if_neg (by decide +kernel)]; exact ⟨rfl, rfl⟩)
end Go.Proofs.YtmdkpcneakoagaaGreat.fnRelOwn
