/- slices.Values at this program: its closure gives a slice's elements, one by one. -/
import Derived.Test.YtmdkpcneakoagaaGreatEvIterC
import Derived.RangeFuncBox
import Derived.RangeFuncLeaves
import Derived.Shelf.Abstract
import Derived.WalkKit
import Derived.OwnWalkIn
import Derived.TacticsInMore
import Derived.LoopNIn
import Derived.LoopIn
import Derived.Test.YtmdkpcneakoagaaGreatProg
namespace Go.It.V163
open Go Go.Proofs Go.RowKit Go.Shelf
attribute [local go_sem] Oper.semAt_some
theorem upto_succ {α : Type} (f : Nat → α) (k : Nat) : (List.range (k + 1)).map f = (List.range k).map f ++ [f k] := by simp [List.range_succ]
set_option maxRecDepth 100000 in
set_option maxHeartbeats 2000000 in
theorem vals1 (F : Fence) (n : Nat) (hf : F.fn 192) (hro : F.round = none) (hn : 1 ≤ n) (l len cap : Nat) (pb ad : Addr) (enc : Nat → List UInt8) (hreach : len * 8 ≤ 140737488351232) (J : List (List UInt8) → World → Prop) (W : World) (hBs : W.cell? pb = some (.slice (some ad) len cap))
  (hJc : ∀ s W', J s W' → ∀ j, j < len → W'.cell? (ad.add j) = some (encStr (enc j)))
  (hY : ∀ pre x W1, J pre W1 → pre.length < len → YieldAt F (n - 1) Tryz.prog l #[encStr x] W1 fun e W' => e = .returned (.bool true) ∧ J (pre ++ [x]) W') (h0 : J [] W) :
  CallsIn F n Tryz.prog 192 #[.func (.yield l) #[] #[], .pointer (some pb)] W fun e W' => (∃ v, e = .returned v) ∧ J ((List.range len).map enc) W' := by
 refine callsIn_of_wp Tryz.func192 rfl hf ?_ hro
 simp only [Tryz.ntmps192, List.size_toArray, List.length_cons, List.length_nil, Nat.reduceAdd, Nat.reduceSub, Array.replicate_succ, Array.replicate_zero, List.push_toArray, List.append_toArray, List.nil_append, List.cons_append]
 gi_wp2
 gi_loopw [7] (fun i wr => ∃ k : Nat, k ≤ len ∧ i = .int .i64 k ∧ J ((List.range k).map enc) wr)
  (fun i _ => len - (Go.RowKit.intOf i).toNat)
 case atStart => exact ⟨0, Nat.zero_le _, rfl, h0⟩
 case round =>
  obtain ⟨k, hk, rfl, hJs⟩ := hrel
  by_cases hlt : k < len
  ·obtain ⟨fn, tmps, assign, body, hy, hR⟩ := hY _ (enc k) wr hJs (by simpa using hlt)
   have hcx' : wr.cell? (ad.add k) = some (encStr (enc k)) := hJc _ _ hJs k hlt
   gi_wp2
   refine hR.mono ?_
   rintro e W3 ⟨rfl, hJ3⟩
   gi_wp2
   go_roundw
   case rel => exact ⟨k + 1, by omega, by simp, by rw [upto_succ]; exact hJ3⟩
   case measure => simp [Go.RowKit.intOf]; omega
  ·obtain rfl : k = len := by omega
   gi_wp2
   go_end0
   exact ⟨⟨_, rfl⟩, hJs⟩
set_option maxRecDepth 100000 in
set_option maxHeartbeats 1000000 in
theorem vals1_nil (F : Fence) (n : Nat) (hf : F.fn 192) (hro : F.round = none) (l cap : Nat) (a : Option Addr) (pb : Addr) (J : List (List UInt8) → World → Prop) (W : World) (hBs : W.cell? pb = some (.slice a 0 cap)) (h0 : J [] W) :
  CallsIn F n Tryz.prog 192 #[.func (.yield l) #[] #[], .pointer (some pb)] W fun e W' => (∃ v, e = .returned v) ∧ J [] W' := by
 refine callsIn_of_wp Tryz.func192 rfl hf ?_ hro
 simp only [Tryz.ntmps192, List.size_toArray, List.length_cons, List.length_nil, Nat.reduceAdd, Nat.reduceSub, Array.replicate_succ, Array.replicate_zero, List.push_toArray, List.append_toArray, List.nil_append, List.cons_append]
 gi_wp2
 gi_loopw [7] (fun i wr => i = .int .i64 0 ∧ J [] wr) (fun _ _ => 0)
 case atStart => exact ⟨rfl, h0⟩
 case round =>
  obtain ⟨rfl, hJs⟩ := hrel
  gi_wp2
  go_end0
  exact ⟨⟨_, rfl⟩, hJs⟩
set_option maxHeartbeats 1000000 in
theorem values (v : Value) (w : World) : Calls Tryz.prog 163 #[v] w fun e w' => e = .returned (.func (.func 192) #[] #[.pointer (some ⟨w.heap.size, 0, none⟩)]) ∧ w' = w.alloc (.cells v.cells 114) := by
 refine (callsIn_wide (n := 2)).1 ?_
 refine callsIn_of_wp Tryz.func163 rfl trivial ?_ rfl
 simp only [Tryz.ntmps163, List.size_toArray, List.length_cons, List.length_nil, Nat.reduceAdd, Nat.reduceSub, Array.replicate_succ, Array.replicate_zero, List.push_toArray, List.append_toArray, List.nil_append, List.cons_append]
 gi_wp2
 ·go_ret
  exact ⟨rfl, rfl⟩
 ·rename_i hx
  go_ret
  refine ⟨rfl, ?_⟩
  have : v.cells = #[v] := by
   cases v <;> first | rfl | exact (hx _ rfl).elim
  rw [this]
theorem valsOk : ValsOk Tryz.prog 192 (fun x : List UInt8 => encStr x) :=
 ⟨fun F n hf hro hn l len cap pb ad enc hr J W hBs hJc hY h0 => vals1 F n hf hro hn l len cap pb ad enc hr J W hBs hJc hY h0, fun F n hf hro l cap a pb J W hBs h0 => vals1_nil F n hf hro l cap a pb J W hBs h0⟩
set_option maxRecDepth 100000 in
theorem boxes : Go.Ev.Boxes Tryz.prog 163 114 192 := boxes_of Tryz.func163 (by kernel_rfl) rfl values
end Go.It.V163
