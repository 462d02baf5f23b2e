/- Checksums and frames: both functions. -/
import Derived.Test.YtmobcecmjpfpiaaGreatEvC
import Derived.Test.YtmobcecmjpfpiaaGreatPz1
import Derived.Test.YtmobcecmjpfpiaaGreatMBits
set_option linter.unusedVariables false
set_option linter.unusedSimpArgs false
namespace Go.Ev.W
open Go.Ev

def crcS (c : Nat) : Nat := if c % 2 = 1 then c / 2 ^^^ 3988292384 else c / 2
def crcN : Nat → Nat → Nat
  | 0, c => c
  | k + 1, c => crcN k (crcS c)
def crcV (D : List Nat) (c : Nat) : Nat := D.foldl (fun c x => crcN 8 (c ^^^ x)) c
def crc (D : List Nat) : Nat := crcV D 4294967295 ^^^ 4294967295
theorem crcS_lt {c : Nat} (h : c < 4294967296) : crcS c < 4294967296 := by
  unfold crcS
  split
  · exact Nat.xor_lt_two_pow (n := 32) (by omega) (by omega)
  · omega
theorem crcN_lt : ∀ (k : Nat) {c : Nat}, c < 4294967296 → crcN k c < 4294967296
  | 0, _, h => h
  | k + 1, _, h => crcN_lt k (crcS_lt h)
theorem xor_lt32 {a b : Nat} (ha : a < 4294967296) (hb : b < 4294967296) : a ^^^ b < 4294967296 := Nat.xor_lt_two_pow (n := 32) ha hb
theorem crcV_lt : ∀ (D : List Nat) (c : Nat), (∀ x ∈ D, x < 256) → c < 4294967296 → crcV D c < 4294967296
  | [], c, _, h => h
  | x :: D, c, hD, h => crcV_lt D _ (fun y hy => hD y (List.mem_cons_of_mem _ hy)) (crcN_lt 8 (xor_lt32 h (by have := hD x List.mem_cons_self; omega)))
theorem crc_lt (D : List Nat) (hD : ∀ x ∈ D, x < 256) : crc D < 4294967296 := xor_lt32 (crcV_lt D _ hD (by omega)) (by omega)
theorem wrap32 {z : Nat} (h : z < 4294967296) : IntKind.u32.wrap (z : Int) = z := IntWalk.u32_in z ⟨by omega, by omega⟩
theorem specCrc_l1 (D : List Nat) (i : Nat) : ∀ (d k c : Nat), 8 - k = d → k ≤ 8 → c < 4294967296 → spec_Crc_l1 (ints D) c i k = spec_Crc_l0 (ints D) (crcN d c : Nat) (IntKind.i64.wrap ((i : Int) + 1))
  | 0, k, c, h1, h2, h3 => by
    rw [spec_Crc_l1.eq, bif_ndec (by omega)]; rfl
  | d + 1, k, c, h1, h2, h3 => by
    have e1 : (c : Int).tmod 2 = ((c % 2 : Nat) : Int) := rfl
    have e2 : (c : Int).tdiv 2 = ((c / 2 : Nat) : Int) := rfl
    have h4 := bv_xor 64 (c / 2) 3988292384 (by omega) (by omega)
    rw [show ((3988292384 : Nat) : Int) = 3988292384 from rfl] at h4
    have h5 := xor_lt32 (a := c / 2) (b := 3988292384) (by omega) (by omega)
    have ih := specCrc_l1 D i d (k + 1) (crcS c) (by omega) (by omega) (crcS_lt h3)
    rw [spec_Crc_l1.eq, bif_dec (by omega), e1, e2, wrapIn (z := c / 2) (by omega), wrapS k (by omega)]
    unfold crcS at ih
    by_cases h : c % 2 = 1
    · rw [if_pos h] at ih
      rw [bif_eq (by omega), h4, wrapIn (by omega), ih]
      show _ = spec_Crc_l0 _ (crcN d (crcS c) : Nat) _
      unfold crcS; rw [if_pos h]
    · rw [if_neg h] at ih
      rw [bif_neq (by omega), ih]
      show _ = spec_Crc_l0 _ (crcN d (crcS c) : Nat) _
      unfold crcS; rw [if_neg h]
theorem specCrc_l0 (D : List Nat) (hl : D.length ≤ 16000) (hD : ∀ x ∈ D, x < 256) : ∀ (d i c : Nat), D.length - i = d → i ≤ D.length → c < 4294967296 → spec_Crc_l0 (ints D) c i = some ((crcV (D.drop i) c ^^^ 4294967295 : Nat) : Int)
  | 0, i, c, h1, h2, h3 => by
    have h4 := bv_xor 64 c 4294967295 (by omega) (by omega)
    rw [show ((4294967295 : Nat) : Int) = 4294967295 from rfl] at h4
    have h5 := xor_lt32 (a := c) (b := 4294967295) (by omega) (by omega)
    rw [spec_Crc_l0.eq, List.length_map, bif_ndec (by omega), h4, wrapIn (by omega), List.drop_eq_nil_of_le (by omega)]; rfl
  | d + 1, i, c, h1, h2, h3 => by
    have hi : i < D.length := by omega
    have hx := hD _ (List.getElem_mem hi)
    have h4 := bv_xor 64 c D[i] (by omega) (by omega)
    have h5 := xor_lt32 (a := c) (b := D[i]) (by omega) (by omega)
    rw [spec_Crc_l0.eq, List.length_map, bif_dec (by omega), at?_ints _ _ hi, Option.bind_some, wrapIn (z := D[i]) (by omega), h4, wrapIn (by omega)]
    have h6 := specCrc_l1 D i 8 0 (c ^^^ D[i]) rfl (by omega) h5
    refine h6.trans ?_
    rw [wrapS i (by omega), specCrc_l0 D hl hD d (i + 1) _ (by omega) (by omega) (crcN_lt 8 h5), List.drop_eq_getElem_cons hi]; rfl
theorem specCrc_eq (D : List Nat) (hl : D.length ≤ 16000) (hD : ∀ x ∈ D, x < 256) : spec_Crc (ints D) = some ((crc D : Nat) : Int) := by
  rw [spec_Crc.eq, List.length_map, bif_ndec (by omega)]
  exact specCrc_l0 D hl hD _ 0 4294967295 rfl (by omega) (by omega)
theorem implCrc_l1 (D : List Nat) (n i : Int) : ∀ (d k c : Nat), 8 - k = d → k ≤ 8 → c < 4294967296 → impl_crc_l1 c (ints D) n i k = impl_crc_l0 (crcN d c : Nat) (ints D) n (IntKind.i64.wrap (i + 1))
  | 0, k, c, h1, h2, h3 => by
    rw [impl_crc_l1.eq, bif_ndec (by omega)]; rfl
  | d + 1, k, c, h1, h2, h3 => by
    have e1 : (c : Int).fdiv (2 ^ 1) = ((c / 2 : Nat) : Int) := fdiv_nat c 1
    have h6 := bv_and 32 c 1 (by omega) (by omega)
    rw [show ((1 : Nat) : Int) = 1 from rfl, Nat.and_one_is_mod] at h6
    have ih := implCrc_l1 D n i d (k + 1) (crcS c) (by omega) (by omega) (crcS_lt h3)
    rw [impl_crc_l1.eq, bif_dec (by omega), e1, h6, wrap32 (z := c % 2) (by omega), wrapS k (by omega)]
    have hx : IntKind.u32.wrap (((BitVec.ofInt 32 ((c / 2 : Nat) : Int)) ^^^ (BitVec.ofInt 32 (IntKind.u32.wrap (((c % 2 : Nat) : Int) * 3988292384)))).toNat : Int) = ((crcS c : Nat) : Int) := by
      unfold crcS
      rcases Nat.mod_two_eq_zero_or_one c with h | h
      · rw [h, if_neg (by omega), show (((0 : Nat) : Int) * 3988292384) = ((0 : Nat) : Int) by omega, wrap32 (z := 0) (by omega)]
        have h4 := bv_xor 32 (c / 2) 0 (by omega) (by omega)
        rw [h4, Nat.xor_zero, wrap32 (by omega)]
      · rw [h, if_pos rfl, show (((1 : Nat) : Int) * 3988292384) = ((3988292384 : Nat) : Int) by omega, wrap32 (z := 3988292384) (by omega)]
        have h4 := bv_xor 32 (c / 2) 3988292384 (by omega) (by omega)
        rw [h4, wrap32 (xor_lt32 (by omega) (by omega))]
    rw [hx]
    exact ih
theorem implCrc_l0 (D : List Nat) (hl : D.length ≤ 16000) (hD : ∀ x ∈ D, x < 256) : ∀ (d i c : Nat), D.length - i = d → i ≤ D.length → c < 4294967296 → impl_crc_l0 c (ints D) D.length i = some ((crcV (D.drop i) c ^^^ 4294967295 : Nat) : Int)
  | 0, i, c, h1, h2, h3 => by
    have h4 := bv_xor 32 c 4294967295 (by omega) (by omega)
    rw [show ((4294967295 : Nat) : Int) = 4294967295 from rfl] at h4
    have h5 := xor_lt32 (a := c) (b := 4294967295) (by omega) (by omega)
    rw [impl_crc_l0.eq, bif_ndec (by omega), h4, wrap32 h5, wrapIn (by omega), List.drop_eq_nil_of_le (by omega)]; rfl
  | d + 1, i, c, h1, h2, h3 => by
    have hi : i < D.length := by omega
    have hx := hD _ (List.getElem_mem hi)
    have h4 := bv_xor 32 c D[i] (by omega) (by omega)
    have h5 := xor_lt32 (a := c) (b := D[i]) (by omega) (by omega)
    rw [impl_crc_l0.eq, bif_dec (by omega), at?_ints _ _ hi, Option.bind_some, wrap32 (z := D[i]) (by omega), h4, wrap32 h5]
    have h6 := implCrc_l1 D D.length i 8 0 (c ^^^ D[i]) rfl (by omega) h5
    refine h6.trans ?_
    rw [wrapS i (by omega), implCrc_l0 D hl hD d (i + 1) _ (by omega) (by omega) (crcN_lt 8 h5), List.drop_eq_getElem_cons hi]; rfl
theorem implCrc_eq (D : List Nat) (hl : D.length ≤ 16000) (hD : ∀ x ∈ D, x < 256) : impl_crc (ints D) = some ((crc D : Nat) : Int) := by
  rw [impl_crc.eq, List.length_map]
  exact implCrc_l0 D hl hD _ 0 4294967295 rfl (by omega) (by omega)

/-! #### frames -/
def four (n : Nat) : List Nat := [n % 256, n / 256 % 256, n / 65536 % 256, n / 16777216 % 256]
theorem byte_wrap (n : Nat) : IntKind.u8.wrap (n : Int) = ((n % 256 : Nat) : Int) := by
  show (let m := (n : Int) % (2 ^ 8 : Int); if false && m ≥ (2 ^ 7 : Int) then m - 2 ^ 8 else m) = _
  simp
theorem specFour_eq (n : Nat) (h : n < 4294967296) : spec_l04Four n = some (ints (four n)) := by
  have e1 : (n : Int).tmod 256 = ((n % 256 : Nat) : Int) := rfl
  have e2 : (n : Int).tdiv 256 = ((n / 256 : Nat) : Int) := rfl
  have e3 : (n : Int).tdiv 65536 = ((n / 65536 : Nat) : Int) := rfl
  have e4 : (n : Int).tdiv 16777216 = ((n / 16777216 : Nat) : Int) := rfl
  have f2 : ((n / 256 : Nat) : Int).tmod 256 = ((n / 256 % 256 : Nat) : Int) := rfl
  have f3 : ((n / 65536 : Nat) : Int).tmod 256 = ((n / 65536 % 256 : Nat) : Int) := rfl
  have f4 : ((n / 16777216 : Nat) : Int).tmod 256 = ((n / 16777216 % 256 : Nat) : Int) := rfl
  rw [spec_l04Four.eq, e1, e2, e3, e4, wrapIn (z := n / 256) (by omega), wrapIn (z := n / 65536) (by omega), wrapIn (z := n / 16777216) (by omega), f2, f3, f4, wrapBn (by omega), wrapBn (by omega), wrapBn (by omega), wrapBn (by omega)]; rfl
theorem implFour_step (n : Nat) (i : Nat) (hi : i < 4) (out : List Int) (ho : out.length ≤ 1000000) : impl_FrameOf_l0 n i out = impl_FrameOf_l0 n (i + 1 : Nat) (out ++ [((n / 2 ^ (8 * i) % 256 : Nat) : Int)]) := by
  have e : min (8 * i) 64 = 8 * i := by omega
  rw [impl_FrameOf_l0.eq, bif_dec (by omega), wrapI (x := 8 * (i : Int)) (by omega) (by omega), show (8 : Int) * (i : Int) = ((8 * i : Nat) : Int) by omega, bif_ndec (by omega), Int.toNat_natCast, e, fdiv_nat, byte_wrap, bif_dec (by simp only [List.length_cons, List.length_nil]; omega), wrapS i (by omega)]
theorem implFour_eq (n : Nat) (out : List Int) (ho : out.length ≤ 900000) : impl_FrameOf_l0 n 0 out = some (out ++ ints (four n)) := by
  have h0 := implFour_step n 0 (by omega) out (by omega)
  have h1 := implFour_step n 1 (by omega) (out ++ [((n / 2 ^ (8 * 0) % 256 : Nat) : Int)]) (by simp; omega)
  have h2 := implFour_step n 2 (by omega) (out ++ [((n / 2 ^ (8 * 0) % 256 : Nat) : Int)] ++ [((n / 2 ^ (8 * 1) % 256 : Nat) : Int)]) (by simp; omega)
  have h3 := implFour_step n 3 (by omega) (out ++ [((n / 2 ^ (8 * 0) % 256 : Nat) : Int)] ++ [((n / 2 ^ (8 * 1) % 256 : Nat) : Int)] ++ [((n / 2 ^ (8 * 2) % 256 : Nat) : Int)]) (by simp; omega)
  have e0 : ((0 : Nat) : Int) = 0 := rfl
  rw [e0] at h0
  refine (h0.trans (h1.trans (h2.trans h3))).trans ?_
  rw [impl_FrameOf_l0.eq, bif_ndec (by omega)]
  simp [four]
def frH (k : Nat) (B : List Nat) : List Nat := [90, k] ++ Var B.length ++ B
def frame (k : Nat) (B : List Nat) : List Nat := if B.length ≤ 8000 then frH k B ++ four (crc (frH k B)) else []
theorem frH_len (k : Nat) (B : List Nat) (h : B.length ≤ 8000) : (frH k B).length ≤ 8010 := by
  have := Var_len B.length
  unfold frH
  simp only [List.length_append, List.length_cons, List.length_nil]; omega
theorem frH_bytes (k : Nat) (B : List Nat) (hk : k < 256) (hB : ∀ x ∈ B, x < 256) : ∀ x ∈ frH k B, x < 256 := by
  intro x hx
  unfold frH at hx
  rcases List.mem_append.1 hx with hx | hx
  · rcases List.mem_append.1 hx with hx | hx
    · simp at hx; omega
    · exact Var_bytes _ x hx
  · exact hB x hx
theorem frame_len (k : Nat) (B : List Nat) : (frame k B).length ≤ 8020 := by
  unfold frame
  split
  · rename_i h
    have := frH_len k B h
    rw [List.length_append]; simp [four]; omega
  · simp
theorem frH_ints (k : Nat) (B : List Nat) (hk : k < 256) : (([(90 : Int), IntKind.u8.wrap k] : List Int) ++ ints (Var B.length)) ++ ints B = ints (frH k B) := by
  rw [wrapBn hk]
  unfold frH
  simp only [List.map_append]; rfl
theorem specFrame_eq (k : Nat) (B : List Nat) (hk : k < 256) (hB : ∀ x ∈ B, x < 256) : spec_FrameOf ((k : Int), ints B) = some (ints (frame k B)) := by
  have hv := Var_len B.length
  have e : spec_FrameOk ((k : Int), ints B) = some (decide (B.length ≤ 8000)) := by
    rw [spec_FrameOk.eq]
    try simp only
    rw [bif_dec (by omega), bif_dec (by omega), List.length_map]
    congr 1
    rw [Bool.eq_iff_iff, decide_eq_true_eq, decide_eq_true_eq]; omega
  rw [spec_FrameOf.eq]
  try simp only
  rw [e, Option.bind_some]
  unfold frame
  by_cases h : B.length ≤ 8000
  · have hH := frH_len k B h
    have hb := frH_bytes k B hk hB
    have hl : (ints (frH k B)).length = (frH k B).length := List.length_map ..
    rw [decide_eq_true h, Bool.not_true, bif_false, if_pos h, List.length_map, specVarOf_eq, Option.bind_some, bif_dec (by simp only [List.length_cons, List.length_nil, List.length_map]; omega), bif_dec (by simp only [List.length_append, List.length_cons, List.length_nil, List.length_map]; omega), frH_ints k B hk, specCrc_eq _ (by omega) hb, Option.bind_some, specFour_eq _ (crc_lt _ hb), Option.bind_some, bif_dec (by rw [hl]; simp [four]; omega)]
    simp only [List.map_append]
  · rw [decide_eq_false h, Bool.not_false, bif_true, if_neg h]; rfl
theorem implFrame_eq (k : Nat) (B : List Nat) (hk : k < 256) (hB : ∀ x ∈ B, x < 256) : impl_FrameOf ((k : Int), ints B) = some (ints (frame k B)) := by
  have hv := Var_len B.length
  have e : impl_FrameOk ((k : Int), ints B) = some (decide (B.length ≤ 8000)) := by
    rw [impl_FrameOk.eq]
    try simp only
    rw [withinN_eq, decide_eq_true (show (0 : Int) ≤ k by omega), decide_eq_true (show (k : Int) ≤ 255 by omega), Option.bind_some, Bool.and_true, bif_true, List.length_map]
    congr 1
    rw [Bool.eq_iff_iff, decide_eq_true_eq, decide_eq_true_eq]; omega
  rw [impl_FrameOf.eq]
  try simp only
  rw [e, Option.bind_some]
  unfold frame
  by_cases h : B.length ≤ 8000
  · have hH := frH_len k B h
    have hb := frH_bytes k B hk hB
    have hl : (ints (frH k B)).length = (frH k B).length := List.length_map ..
    rw [decide_eq_true h, Bool.not_true, bif_false, if_pos h, List.length_map, implVarOf_eq, Option.bind_some, bif_dec (by simp only [List.length_cons, List.length_nil, List.length_map]; omega), bif_dec (by simp only [List.length_append, List.length_cons, List.length_nil, List.length_map]; omega), frH_ints k B hk, implCrc_eq _ (by omega) hb, Option.bind_some, implFour_eq _ _ (by omega)]
    simp only [List.map_append]
  · rw [decide_eq_false h, Bool.not_false, bif_true, if_neg h]; rfl
end Go.Ev.W
