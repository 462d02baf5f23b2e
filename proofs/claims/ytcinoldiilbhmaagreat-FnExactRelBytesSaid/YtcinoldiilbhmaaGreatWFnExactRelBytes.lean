/- FnExactRelBytes: facts about the program that the row asks for. -/
import Derived.Test.YtcinoldiilbhmaaGreatRows
import Derived.Test.YtcinoldiilbhmaaGreatProg
import Derived.KernelRfl
import Derived.JoinedOf
namespace Go.Proofs.YtcinoldiilbhmaaGreat.fnExactRelBytes
open Go.ChangeShapes Go.WideShapes
theorem and_i {a b : Bool} (h : a = true) (g : b = true) : (a && b) = true := by rw [h, g]; rfl
theorem w1 : Tryz.pinned.checked.prog.funcNamed Rows.fnExactRelBytesRow.func = some 14 := by kernel_rfl
set_option maxHeartbeats 4000000 in
theorem w2 : joinedFacts Tryz.pinned.checked.prog 14 Tryz.f14 Rows.fnExactRelBytesSpec Rows.fnExactRelBytesRow = true := by
  unfold joinedFacts
  repeat' (with_reducible apply and_i)
  all_goals decide +kernel
theorem w3 : Tryz.f14.isInstance Tryz.pinned.checked.prog Rows.fnExactRelBytesRow.origin Rows.fnExactRelBytesRow.targs := of_decide_eq_true (by kernel_rfl)
theorem w4 : Tryz.f14.isWrapper Tryz.pinned.checked.prog Rows.fnExactRelBytesRow.wrapper Rows.fnExactRelBytesRow.mainSum := by
  unfold Func.isWrapper
  first | (rw [if_pos (by decide +kernel)]; kernel_rfl) | (rw [if_neg (by decide +kernel)]; exact ⟨rfl, rfl⟩)
end Go.Proofs.YtcinoldiilbhmaaGreat.fnExactRelBytes
