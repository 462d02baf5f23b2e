/- FnWaveKth: facts about the program that the row asks for. -/
import Derived.Test.YtmobcecmjpfpiaaRows
import Derived.Test.YtmobcecmjpfpiaaProg
import Derived.KernelRfl
import Derived.JoinedOf
namespace Go.Proofs.Ytmobcecmjpfpiaa.fnWaveKth
open Go.ChangeShapes Go.WideShapes
theorem and_i {a b : Bool} (h : a = true) (g : b = true) : (a && b) = true := by rw [h, g]; rfl
theorem w1 : Try.pinned.checked.prog.funcNamed Rows.fnWaveKthRow.func = some 6 := by kernel_rfl
set_option maxHeartbeats 4000000 in
theorem w2 : joinedFacts Try.pinned.checked.prog 6 Try.f6 Rows.fnWaveKthSpec Rows.fnWaveKthRow = true := by
  unfold joinedFacts
  repeat' (with_reducible apply and_i)
  all_goals decide +kernel
theorem w3 : Try.f6.isInstance Try.pinned.checked.prog Rows.fnWaveKthRow.origin Rows.fnWaveKthRow.targs := of_decide_eq_true (by kernel_rfl)
theorem w4 : Try.f6.isWrapper Try.pinned.checked.prog Rows.fnWaveKthRow.wrapper Rows.fnWaveKthRow.mainSum := by
  unfold Func.isWrapper
  first | (rw [if_pos (by decide +kernel)]; kernel_rfl) | (rw [if_neg (by decide +kernel)]; exact ⟨rfl, rfl⟩)
end Go.Proofs.Ytmobcecmjpfpiaa.fnWaveKth
