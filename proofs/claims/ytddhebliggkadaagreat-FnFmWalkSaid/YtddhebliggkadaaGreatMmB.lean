/- What the functions come to, in plain mathematics, part 2. -/
import Derived.Test.YtddhebliggkadaaGreatEvC
import Derived.Test.YtddhebliggkadaaGreatPq8
import Derived.Test.YtddhebliggkadaaGreatMmA
import Derived.Test.YtddhebliggkadaaGreatEvGrow
import Derived.Test.YtddhebliggkadaaGreatPq1
import Derived.Test.YtddhebliggkadaaGreatPq2
import Derived.Test.YtddhebliggkadaaGreatPq3
import Derived.Test.YtddhebliggkadaaGreatPq5
import Derived.Test.YtddhebliggkadaaGreatPq7
/- Checksums and frames: both functions. -/
set_option linter.unusedVariables false
set_option linter.unusedSimpArgs false
namespace Go.Ev.W
open Go.Ev

def crcS (c : Nat) : Nat := if c % 2 = 1 then c / 2 ^^^ 3988292384 else c / 2
def crcN : Nat → Nat → Nat
  | 0, c => c
  | k + 1, c => crcN k (crcS c)
def crcV (D : List Nat) (c : Nat) : Nat := D.foldl (fun c x => crcN 8 (c ^^^ x)) c
def crc (D : List Nat) : Nat := crcV D 4294967295 ^^^ 4294967295
theorem crcS_lt {c : Nat} (h : c < 4294967296) : crcS c < 4294967296 := by
  unfold crcS
  split
  · exact Nat.xor_lt_two_pow (n := 32) (by omega) (by omega)
  · omega
theorem crcN_lt : ∀ (k : Nat) {c : Nat}, c < 4294967296 → crcN k c < 4294967296
  | 0, _, h => h
  | k + 1, _, h => crcN_lt k (crcS_lt h)
theorem xor_lt32 {a b : Nat} (ha : a < 4294967296) (hb : b < 4294967296) : a ^^^ b < 4294967296 := Nat.xor_lt_two_pow (n := 32) ha hb
theorem crcV_lt : ∀ (D : List Nat) (c : Nat), (∀ x ∈ D, x < 256) → c < 4294967296 → crcV D c < 4294967296
  | [], c, _, h => h
  | x :: D, c, hD, h => crcV_lt D _ (fun y hy => hD y (List.mem_cons_of_mem _ hy)) (crcN_lt 8 (xor_lt32 h (by have := hD x List.mem_cons_self; omega)))
theorem crc_lt (D : List Nat) (hD : ∀ x ∈ D, x < 256) : crc D < 4294967296 := xor_lt32 (crcV_lt D _ hD (by omega)) (by omega)
theorem wrap32 {z : Nat} (h : z < 4294967296) : IntKind.u32.wrap (z : Int) = z := IntWalk.u32_in z ⟨by omega, by omega⟩
theorem implCrc_l1 (D : List Nat) (n i : Int) : ∀ (d k c : Nat), 8 - k = d → k ≤ 8 → c < 4294967296 → impl_crc_l1 c (ints D) n i k = impl_crc_l0 (crcN d c : Nat) (ints D) n (IntKind.i64.wrap (i + 1))
  | 0, k, c, h1, h2, h3 => by
    rw [impl_crc_l1.eq, bif_ndec (by omega)]; rfl
  | d + 1, k, c, h1, h2, h3 => by
    have e1 : (c : Int).fdiv (2 ^ 1) = ((c / 2 : Nat) : Int) := fdiv_nat c 1
    have h6 := bv_and 32 c 1 (by omega) (by omega)
    rw [show ((1 : Nat) : Int) = 1 from rfl, Nat.and_one_is_mod] at h6
    have ih := implCrc_l1 D n i d (k + 1) (crcS c) (by omega) (by omega) (crcS_lt h3)
    rw [impl_crc_l1.eq, bif_dec (by omega), e1, h6, wrap32 (z := c % 2) (by omega), wrapS k (by omega)]
    have hx : IntKind.u32.wrap (((BitVec.ofInt 32 ((c / 2 : Nat) : Int)) ^^^ (BitVec.ofInt 32 (IntKind.u32.wrap (((c % 2 : Nat) : Int) * 3988292384)))).toNat : Int) = ((crcS c : Nat) : Int) := by
      unfold crcS
      rcases Nat.mod_two_eq_zero_or_one c with h | h
      · rw [h, if_neg (by omega), show (((0 : Nat) : Int) * 3988292384) = ((0 : Nat) : Int) by omega, wrap32 (z := 0) (by omega)]
        have h4 := bv_xor 32 (c / 2) 0 (by omega) (by omega)
        rw [h4, Nat.xor_zero, wrap32 (by omega)]
      · rw [h, if_pos rfl, show (((1 : Nat) : Int) * 3988292384) = ((3988292384 : Nat) : Int) by omega, wrap32 (z := 3988292384) (by omega)]
        have h4 := bv_xor 32 (c / 2) 3988292384 (by omega) (by omega)
        rw [h4, wrap32 (xor_lt32 (by omega) (by omega))]
    rw [hx]
    exact ih
theorem implCrc_l0 (D : List Nat) (hl : D.length ≤ 16000) (hD : ∀ x ∈ D, x < 256) : ∀ (d i c : Nat), D.length - i = d → i ≤ D.length → c < 4294967296 → impl_crc_l0 c (ints D) D.length i = some ((crcV (D.drop i) c ^^^ 4294967295 : Nat) : Int)
  | 0, i, c, h1, h2, h3 => by
    have h4 := bv_xor 32 c 4294967295 (by omega) (by omega)
    rw [show ((4294967295 : Nat) : Int) = 4294967295 from rfl] at h4
    have h5 := xor_lt32 (a := c) (b := 4294967295) (by omega) (by omega)
    rw [impl_crc_l0.eq, bif_ndec (by omega), h4, wrap32 h5, wrapIn (by omega), List.drop_eq_nil_of_le (by omega)]; rfl
  | d + 1, i, c, h1, h2, h3 => by
    have hi : i < D.length := by omega
    have hx := hD _ (List.getElem_mem hi)
    have h4 := bv_xor 32 c D[i] (by omega) (by omega)
    have h5 := xor_lt32 (a := c) (b := D[i]) (by omega) (by omega)
    rw [impl_crc_l0.eq, bif_dec (by omega), at?_ints _ _ hi, Option.bind_some, wrap32 (z := D[i]) (by omega), h4, wrap32 h5]
    have h6 := implCrc_l1 D D.length i 8 0 (c ^^^ D[i]) rfl (by omega) h5
    refine h6.trans ?_
    rw [wrapS i (by omega), implCrc_l0 D hl hD d (i + 1) _ (by omega) (by omega) (crcN_lt 8 h5), List.drop_eq_getElem_cons hi]; rfl
theorem implCrc_eq (D : List Nat) (hl : D.length ≤ 16000) (hD : ∀ x ∈ D, x < 256) : impl_crc (ints D) = some ((crc D : Nat) : Int) := by
  rw [impl_crc.eq, List.length_map]
  exact implCrc_l0 D hl hD _ 0 4294967295 rfl (by omega) (by omega)

/-! #### frames -/
def four (n : Nat) : List Nat := [n % 256, n / 256 % 256, n / 65536 % 256, n / 16777216 % 256]
theorem byte_wrap (n : Nat) : IntKind.u8.wrap (n : Int) = ((n % 256 : Nat) : Int) := by
  show (let m := (n : Int) % (2 ^ 8 : Int); if false && m ≥ (2 ^ 7 : Int) then m - 2 ^ 8 else m) = _
  simp
theorem implFour_step (n : Nat) (i : Nat) (hi : i < 4) (out : List Int) (ho : out.length ≤ 1000000) : impl_FrameOf_l0 n i out = impl_FrameOf_l0 n (i + 1 : Nat) (out ++ [((n / 2 ^ (8 * i) % 256 : Nat) : Int)]) := by
  have e : min (8 * i) 64 = 8 * i := by omega
  rw [impl_FrameOf_l0.eq, bif_dec (by omega), wrapI (x := 8 * (i : Int)) (by omega) (by omega), show (8 : Int) * (i : Int) = ((8 * i : Nat) : Int) by omega, bif_ndec (by omega), Int.toNat_natCast, e, fdiv_nat, byte_wrap, bif_dec (by simp only [List.length_cons, List.length_nil]; omega), wrapS i (by omega)]
theorem implFour_eq (n : Nat) (out : List Int) (ho : out.length ≤ 900000) : impl_FrameOf_l0 n 0 out = some (out ++ ints (four n)) := by
  have h0 := implFour_step n 0 (by omega) out (by omega)
  have h1 := implFour_step n 1 (by omega) (out ++ [((n / 2 ^ (8 * 0) % 256 : Nat) : Int)]) (by simp; omega)
  have h2 := implFour_step n 2 (by omega) (out ++ [((n / 2 ^ (8 * 0) % 256 : Nat) : Int)] ++ [((n / 2 ^ (8 * 1) % 256 : Nat) : Int)]) (by simp; omega)
  have h3 := implFour_step n 3 (by omega) (out ++ [((n / 2 ^ (8 * 0) % 256 : Nat) : Int)] ++ [((n / 2 ^ (8 * 1) % 256 : Nat) : Int)] ++ [((n / 2 ^ (8 * 2) % 256 : Nat) : Int)]) (by simp; omega)
  have e0 : ((0 : Nat) : Int) = 0 := rfl
  rw [e0] at h0
  refine (h0.trans (h1.trans (h2.trans h3))).trans ?_
  rw [impl_FrameOf_l0.eq, bif_ndec (by omega)]
  simp [four]
def frH (k : Nat) (B : List Nat) : List Nat := [90, k] ++ Var B.length ++ B
def frame (k : Nat) (B : List Nat) : List Nat := if B.length ≤ 8000 then frH k B ++ four (crc (frH k B)) else []
theorem frH_len (k : Nat) (B : List Nat) (h : B.length ≤ 8000) : (frH k B).length ≤ 8010 := by
  have := Var_len B.length
  unfold frH
  simp only [List.length_append, List.length_cons, List.length_nil]; omega
theorem frH_bytes (k : Nat) (B : List Nat) (hk : k < 256) (hB : ∀ x ∈ B, x < 256) : ∀ x ∈ frH k B, x < 256 := by
  intro x hx
  unfold frH at hx
  rcases List.mem_append.1 hx with hx | hx
  · rcases List.mem_append.1 hx with hx | hx
    · simp at hx; omega
    · exact Var_bytes _ x hx
  · exact hB x hx
theorem frame_len (k : Nat) (B : List Nat) : (frame k B).length ≤ 8020 := by
  unfold frame
  split
  · rename_i h
    have := frH_len k B h
    rw [List.length_append]; simp [four]; omega
  · simp
theorem frH_ints (k : Nat) (B : List Nat) (hk : k < 256) : (([(90 : Int), IntKind.u8.wrap k] : List Int) ++ ints (Var B.length)) ++ ints B = ints (frH k B) := by
  rw [wrapBn hk]
  unfold frH
  simp only [List.map_append]; rfl
theorem implFrame_eq (k : Nat) (B : List Nat) (hk : k < 256) (hB : ∀ x ∈ B, x < 256) : impl_FrameOf ((k : Int), ints B) = some (ints (frame k B)) := by
  have hv := Var_len B.length
  have e : impl_FrameOk ((k : Int), ints B) = some (decide (B.length ≤ 8000)) := by
    rw [impl_FrameOk.eq]
    try simp only
    rw [withinN_eq, decide_eq_true (show (0 : Int) ≤ k by omega), decide_eq_true (show (k : Int) ≤ 255 by omega), Option.bind_some, Bool.and_true, bif_true, List.length_map]
    congr 1
    rw [Bool.eq_iff_iff, decide_eq_true_eq, decide_eq_true_eq]; omega
  rw [impl_FrameOf.eq]
  try simp only
  rw [e, Option.bind_some]
  unfold frame
  by_cases h : B.length ≤ 8000
  · have hH := frH_len k B h
    have hb := frH_bytes k B hk hB
    have hl : (ints (frH k B)).length = (frH k B).length := List.length_map ..
    rw [decide_eq_true h, Bool.not_true, bif_false, if_pos h, List.length_map, implVarOf_eq, Option.bind_some, bif_dec (by simp only [List.length_cons, List.length_nil, List.length_map]; omega), bif_dec (by simp only [List.length_append, List.length_cons, List.length_nil, List.length_map]; omega), frH_ints k B hk, implCrc_eq _ (by omega) hb, Option.bind_some, implFour_eq _ _ (by omega)]
    simp only [List.map_append]
  · rw [decide_eq_false h, Bool.not_false, bif_true, if_neg h]; rfl
end Go.Ev.W

/- Joining byte slices. -/
set_option linter.unusedVariables false
set_option linter.unusedSimpArgs false
namespace Go.Ev.W
open Go.Ev

theorem grow_eq (n : Int) (h0 : 0 ≤ n) (h : n ≤ 140737488355328) : slices_Grow_byte_byte [] n = some [] := by
  unfold slices_Grow_byte_byte growF
  simp only [List.isEmpty_nil, Bool.true_and]
  rw [decide_eq_true h0, decide_eq_true (show n.toNat * 1 ≤ 140737488355328 by omega), decide_eq_true (show n.toNat ≤ 4611686018427387904 by omega)]
  rfl
theorem sum_take_le : ∀ (L : List Nat) (i : Nat), (L.take i).sum ≤ L.sum
  | [], i => by simp
  | x :: L, 0 => by simp
  | x :: L, i + 1 => by simp only [List.take_succ_cons, List.sum_cons]; have := sum_take_le L i; omega
theorem take_step {α : Type} (l : List α) (i : Nat) (h : i < l.length) : l.take (i + 1) = l.take i ++ [l[i]] := by
  rw [List.take_add_one, List.getElem?_eq_getElem h]; rfl
theorem concat_l1 (X : List (List Int)) (hn : X.length ≤ 1000000) (hs : (X.map List.length).sum ≤ 1000000000) : ∀ (d i : Nat), X.length - i = d → i ≤ X.length →
    slices_Concat_byte_byte_l1 X X.length i (X.take i).flatten = some X.flatten := by
  intro d
  induction d with
  | zero =>
    intro i h1 h2
    obtain rfl : i = X.length := by omega
    rw [slices_Concat_byte_byte_l1.eq, bif_ndec (by omega), List.take_length]
  | succ d ih =>
    intro i h1 h2
    rw [slices_Concat_byte_byte_l1.eq, bif_dec (by omega), at?_lt X i (by omega), Option.bind_some]
    have e : (X.take (i + 1)).flatten = (X.take i).flatten ++ X[i] := by rw [take_step _ _ (by omega), List.flatten_append, List.flatten_cons, List.flatten_nil, List.append_nil]
    have hb := sum_take_le (X.map List.length) (i + 1)
    rw [← List.map_take, ← List.length_flatten, e, List.length_append] at hb
    rw [bif_dec (by omega), ← e, wrapI (by omega) (by omega)]
    exact ih (i + 1) (by omega) (by omega)
theorem concat_l0 (X : List (List Int)) (hn : X.length ≤ 1000000) (hs : (X.map List.length).sum ≤ 1000000000) : ∀ (d i : Nat), X.length - i = d → i ≤ X.length →
    slices_Concat_byte_byte_l0 X ((((X.map List.length).take i).sum : Nat) : Int) X X.length i = some X.flatten := by
  intro d
  induction d with
  | zero =>
    intro i h1 h2
    obtain rfl : i = X.length := by omega
    rw [slices_Concat_byte_byte_l0.eq, bif_ndec (by omega)]
    have hb := sum_take_le (X.map List.length) X.length
    rw [grow_eq _ (by omega) (by omega), Option.bind_some]
    exact concat_l1 X hn hs _ 0 rfl (by omega)
  | succ d ih =>
    intro i h1 h2
    have hi : i < X.length := by omega
    rw [slices_Concat_byte_byte_l0.eq, bif_dec (by omega), at?_lt X i hi, Option.bind_some]
    have e : ((X.map List.length).take (i + 1)).sum = ((X.map List.length).take i).sum + X[i].length := by rw [take_step _ _ (by rw [List.length_map]; omega), List.sum_append, List.sum_cons, List.sum_nil, List.getElem_map, Nat.add_zero]
    have hb := sum_take_le (X.map List.length) (i + 1)
    rw [e] at hb
    rw [wrapI (by omega) (by omega), bif_ndec (by omega), wrapI (by omega) (by omega)]
    have := ih (i + 1) (by omega) (by omega)
    rw [e] at this
    exact this
theorem concat_eq (X : List (List Int)) (hn : X.length ≤ 1000000) (hs : (X.map List.length).sum ≤ 1000000000) : slices_Concat_byte_byte X = some X.flatten := by
  rw [slices_Concat_byte_byte.eq]
  exact concat_l0 X hn hs _ 0 rfl (by omega)
end Go.Ev.W

/- Packed numbers as bytes: both functions. -/
set_option linter.unusedVariables false
set_option linter.unusedSimpArgs false
namespace Go.Ev.W
open Go.Ev

def pB (w n b : Int) (W : List Nat) : List Nat := bif pOk w n b W then Var w ++ Var n ++ bb b W else []
theorem pB_len (w n b : Int) (W : List Nat) : (pB w n b W).length ≤ 1000 := by
  unfold pB
  cases h : pOk w n b W with
  | false => simp
  | true =>
    simp only [pOk, vOk, Bool.and_eq_true, decide_eq_true_eq] at h
    have := bb_len b W h.1.2.1.2
    have h1 := Var_len w
    have h2 := Var_len n
    rw [bif_true, List.length_append, List.length_append]; omega
theorem implPackBytes_eq (w n b : Int) (W : List Nat) (hl : W.length ≤ 1048576) (hx : ∀ x ∈ W, x < 2 ^ 64) : impl_PackBytes (w, n, b, ints W) = some (ints (pB w n b W)) := by
  rw [impl_PackBytes.eq]
  try simp only
  rw [implPackOk_eq w n b W hl hx, Option.bind_some]
  unfold pB
  cases h : pOk w n b W with
  | false => rfl
  | true =>
    have hv : vOk b W = true := by simp only [pOk, Bool.and_eq_true] at h; exact h.1.2
    have hv' := hv
    simp only [vOk, Bool.and_eq_true, decide_eq_true_eq] at hv'
    obtain ⟨⟨hb0, hb⟩, hw⟩ := hv'
    have h1 := Var_len w
    have h2 := Var_len n
    have h3 := bb_len b W hb
    obtain ⟨m, rfl⟩ : ∃ m : Nat, b = m := ⟨b.toNat, by omega⟩
    rw [Bool.not_true, bif_false, implVarOf_eq, Option.bind_some, implVarOf_eq, Option.bind_some, bitsBytes_eq m W (by omega) ((okW_iff m W hx).1 (by simpa using hw)), Option.bind_some, concat_eq _ (by simp) (by simp only [List.map_cons, List.map_nil, List.sum_cons, List.sum_nil, List.length_map]; omega), Option.bind_some, bif_true]
    simp only [List.map_append, List.flatten_cons, List.flatten_nil, List.append_nil, List.append_assoc]
end Go.Ev.W

/- Waves: the wave of a list is valid, and its numbers are the list. -/
set_option linter.unusedVariables false
set_option linter.unusedSimpArgs false
namespace Go.Ev.W
open Go.Ev

theorem vOk_tight {m : Nat} {W : List Nat} (hm : m ≤ 5000) (ht : tight m W) : vOk m W = true := by
  unfold vOk
  rw [Int.toNat_natCast, (okW_iff m W ht.2.1).2 ht, decide_eq_true (show (0 : Int) ≤ m by omega), decide_eq_true (show (m : Int) ≤ 5000 by omega)]; rfl
theorem vOk_wrds (bs : List Bool) (h : bs.length ≤ 5000) : vOk bs.length (wrds bs) = true := vOk_tight h (wrds_tight bs)
theorem lvb_wrds (bs : List Bool) (n : Nat) (h : bs.length = n) : lvb ((n : Int), wrds bs) = bs := by
  unfold lvb
  simp only [Int.toNat_natCast]
  rw [← h]
  exact bts_wrds bs
theorem wLv_ok : ∀ (d l : Nat) (X : List Nat), X.length ≤ 1000 → (((wLv d l X).2.zip (ints (wLv d l X).1)).all fun q => lOk X.length q.1 q.2) = true
  | 0, l, X, _ => rfl
  | d + 1, l, X, h => by
    have hl := lohi_len l X
    have ih := wLv_ok d (l + 1) (wlo l X ++ whi l X) (by rw [List.length_append]; omega)
    rw [List.length_append, hl] at ih
    rw [wLv]
    show (List.all (((X.length : Int), wrds (wbs l X)) :: _ |>.zip (((wlo l X).length : Int) :: ints _)) _) = true
    rw [List.zip_cons_cons, List.all_cons, ih, Bool.and_true]
    have hb := wbs_len l X
    have h1 := vOk_wrds (wbs l X) (by omega)
    rw [hb] at h1
    unfold lOk
    simp only [Bool.and_eq_true, decide_eq_true_eq]
    refine ⟨⟨h1, trivial⟩, ?_⟩
    rw [lvb_wrds _ _ hb, zer_wbs, hb, List.take_length]; rfl
theorem wLv_path : ∀ (d l : Nat) (X : List Nat), d + l = 9 → ∀ k (hk : k < X.length), (path ((wLv d l X).2.map lvb) (k, 0)).2 = X[k] % 2 ^ d
  | 0, l, X, _, k, hk => by
    show 0 = _
    rw [Nat.pow_zero, Nat.mod_one]
  | d + 1, l, X, h, k, hk => by
    have hl := lohi_len l X
    have hb := wbs_len l X
    have hnx := nxt_lt (wbs l X) k (by omega)
    rw [hb] at hnx
    have hlen : nxt (wbs l X) k < (wlo l X ++ whi l X).length := by rw [List.length_append, hl]; exact hnx
    have ih := wLv_path d (l + 1) (wlo l X ++ whi l X) (by omega) (nxt (wbs l X) k) hlen
    have hp := part_at l X k hk
    rw [List.getElem?_eq_getElem hlen] at hp
    injection hp with hp
    rw [wLv]
    show (path (lvb ((X.length : Int), wrds (wbs l X)) :: (wLv d (l + 1) (wlo l X ++ whi l X)).2.map lvb) (k, 0)).2 = _
    rw [lvb_wrds _ _ hb]
    show (path ((wLv d (l + 1) (wlo l X ++ whi l X)).2.map lvb) (nxt (wbs l X) k, 2 * 0 + ((wbs l X).getD k false).toNat)).2 = _
    have hgd : (wbs l X).getD k false = wbit l X[k] := by
      rw [List.getD_eq_getElem?_getD]; unfold wbs; rw [List.getElem?_map, List.getElem?_eq_getElem hk]; rfl
    rw [path_val, ih, hp, hgd, List.length_map, (wLv_len' d (l + 1) _).2, Nat.mul_zero, Nat.zero_add]
    have hw : (wbit l X[k]).toNat = X[k] / 2 ^ d % 2 := by
      unfold wbit
      rw [show 8 - l = d by omega]
      rcases Nat.mod_two_eq_zero_or_one (X[k] / 2 ^ d) with h2 | h2 <;> rw [h2] <;> rfl
    rw [hw, Nat.mod_pow_succ, Nat.mul_comm, Nat.add_comm]
theorem wave_back (X : List Nat) (hX : X.length ≤ 1000) (hx : ∀ x ∈ X, x ≤ 511) : wOk X.length (ints (wLv 9 0 X).1) (wLv 9 0 X).2 = true ∧ wList X.length (wLv 9 0 X).2 = X := by
  have hl := wLv_len' 9 0 X
  constructor
  · unfold wOk
    rw [wLv_ok 9 0 X hX, decide_eq_true (show (0 : Int) ≤ X.length by omega), decide_eq_true (show (X.length : Int) ≤ 1000 by omega), decide_eq_true (show (ints (wLv 9 0 X).1).length = 9 by rw [List.length_map]; exact hl.1), decide_eq_true hl.2]; rfl
  · rw [wList_eq]
    refine List.ext_getElem (by rw [List.length_map, List.length_range]) fun k h1 h2 => ?_
    have := hx _ (List.getElem_mem h2)
    rw [List.getElem_map, List.getElem_range, wLv_path 9 0 X rfl k h2, Nat.mod_eq_of_lt (by omega)]
end Go.Ev.W

/- An index as bytes: both functions. -/
set_option linter.unusedVariables false
set_option linter.unusedSimpArgs false
namespace Go.Ev.W
open Go.Ev

theorem pOk_pk (w : Nat) (hw : w ≤ 32) (X : List Nat) (hl : X.length ≤ 5000) (h : X.length * w ≤ 5000) : pOk w X.length ((X.length * w : Nat) : Int) (wrds (dgs w X)) = true := by
  have h1 := vOk_wrds (dgs w X) (by rw [dgs_len]; omega)
  rw [dgs_len] at h1
  unfold pOk
  rw [h1, decide_eq_true (show (0 : Int) ≤ w by omega), decide_eq_true (show (w : Int) ≤ 32 by omega), decide_eq_true (show (0 : Int) ≤ (X.length : Int) by omega), decide_eq_true (show (X.length : Int) ≤ 5000 by omega), decide_eq_true (by rw [Nat.mul_comm]; simp)]; rfl
/-- The bytes of packed numbers. -/
def pkB (w : Nat) (X : List Nat) : List Nat := pB w X.length ((X.length * w : Nat) : Int) (wrds (dgs w X))
theorem implPk_eq (w : Nat) (X : List Nat) (hl : X.length * w ≤ 5000) : impl_PackBytes (pk w X) = some (ints (pkB w X)) :=
  implPackBytes_eq _ _ _ _ (by rw [wrds_length, dgs_len]; unfold nw; omega) (wrds_tight _).2.1
def mkBy (r : Nat) (S : List Nat) : List Nat := bb (mkB r S).length (wrds (mkB r S))
def fmEnds (D : List Nat) (r : Nat) : List Nat := mkBy r (srt D) ++ pkB (wd D.length) (saL r (srt D)) ++ pkB (wd D.length) (isaL r D.length (srt D))
def fmBody (r : Nat) (L : List (Int × List Nat)) (E : List Nat) : List Nat := Var r ++ (L.map fun p => bb p.1 p.2).flatten ++ E
theorem bys_bytes (l : List Bool) : ∀ x ∈ bys l, x < 256 := by
  intro x hx
  unfold bys at hx
  obtain ⟨m, _, rfl⟩ := List.mem_map.1 hx
  exact byt_lt l m
theorem pB_bytes (w n b : Int) (W : List Nat) : ∀ x ∈ pB w n b W, x < 256 := by
  intro x hx
  unfold pB at hx
  cases h : pOk w n b W with
  | false => rw [h] at hx; cases hx
  | true =>
    rw [h, bif_true] at hx
    rcases List.mem_append.1 hx with hx | hx
    · rcases List.mem_append.1 hx with hx | hx
      · exact Var_bytes _ x hx
      · exact Var_bytes _ x hx
    · exact bb_bytes _ _ x hx
theorem lv_bytes (L : List (Int × List Nat)) : ∀ x ∈ (L.map fun p => bb p.1 p.2).flatten, x < 256 := by
  intro x hx
  obtain ⟨l, hl, h2⟩ := List.mem_flatten.1 hx
  obtain ⟨p, _, rfl⟩ := List.mem_map.1 hl
  exact bb_bytes _ _ x h2
theorem fmEnds_bytes (D : List Nat) (r : Nat) : ∀ x ∈ fmEnds D r, x < 256 := by
  intro x hx
  unfold fmEnds at hx
  rcases List.mem_append.1 hx with hx | hx
  · rcases List.mem_append.1 hx with hx | hx
    · exact bb_bytes _ _ x hx
    · exact pB_bytes _ _ _ _ x hx
  · exact pB_bytes _ _ _ _ x hx
theorem fmBody_bytes (r : Nat) (L : List (Int × List Nat)) (E : List Nat) (hE : ∀ x ∈ E, x < 256) : ∀ x ∈ fmBody r L E, x < 256 := by
  intro x hx
  unfold fmBody at hx
  rcases List.mem_append.1 hx with hx | hx
  · rcases List.mem_append.1 hx with hx | hx
    · exact Var_bytes _ x hx
    · exact lv_bytes L x hx
  · exact hE x hx
theorem fmEnds_len (D : List Nat) (r : Nat) (hl : D.length ≤ 300) : (fmEnds D r).length ≤ 2700 := by
  have hs := srt_len' D
  have h1 := bb_len ((mkB r (srt D)).length : Int) (wrds (mkB r (srt D))) (by rw [mkB_len]; omega)
  have h2 := pB_len (wd D.length : Nat) (saL r (srt D)).length (((saL r (srt D)).length * wd D.length : Nat) : Int) (wrds (dgs (wd D.length) (saL r (srt D))))
  have h3 := pB_len (wd D.length : Nat) (isaL r D.length (srt D)).length (((isaL r D.length (srt D)).length * wd D.length : Nat) : Int) (wrds (dgs (wd D.length) (isaL r D.length (srt D))))
  unfold fmEnds mkBy pkB
  simp only [List.length_append]; omega
theorem ints_app3 (a b c : List Nat) : (ints a ++ ints b) ++ ints c = ints (a ++ b ++ c) := by simp only [List.map_append]
theorem fmB_len (r : Nat) (n : Int) (Z : List Int) (L : List (Int × List Nat)) (h : wOk n Z L = true) : ((L.map fun p => bb p.1 p.2).flatten).length ≤ 6300 := by
  obtain ⟨_, _, _, h4, h5⟩ := wOk_at h
  have := wB_parts L fun p hp => (h5 p hp).1
  omega
end Go.Ev.W

/- The index of a text is valid. -/
set_option linter.unusedVariables false
set_option linter.unusedSimpArgs false
namespace Go.Ev.W
open Go.Ev

theorem wLv_words64 (X : List Nat) : ∀ (d l : Nat) (Y : List Nat), ∀ p ∈ (wLv d l Y).2, ∀ x ∈ p.2, x < 2 ^ 64
  | 0, l, Y, p, h, _, _ => by cases h
  | d + 1, l, Y, p, h, x, hx => by
    rw [wLv] at h
    rcases List.mem_cons.1 h with rfl | h
    · exact (wrds_tight (wbs l Y)).2.1 x hx
    · exact wLv_words64 X d (l + 1) _ p h x hx
theorem fmV_ok (D : List Nat) (h1 : D.length ≤ 300) (h2 : ∀ x ∈ D, x < 256) (r : Nat) (h3 : 1 ≤ r) (h4 : r ≤ 64) (hb : bT (bwt D) = (ints D, true)) : FmOkV (fmV D r) D ∧ FmW (fmV D r) D := by
  have hl := bwt_len D
  have hle := bwt_le D h2
  have e : (fmV D r).2.1 = (r : Int) := rfl
  refine ⟨⟨h1, h2, by rw [e]; omega, by rw [e]; omega, by rw [e, Int.toNat_natCast]⟩, ⟨(wLv 9 0 (bwt D)).2, rfl, fun p hp => ?_, wLv_words64 [] 9 0 (bwt D), ?_⟩, hb⟩
  · rw [wLv_words 9 0 (bwt D) p hp]; unfold nw; omega
  · exact (wave_back (bwt D) (by omega) fun x hx => by have := hle x hx; omega).1
theorem fmV_words (D : List Nat) (r : Nat) : ∀ p ∈ (fmV D r).2.2.2.2.1, ∀ x ∈ p.2, 0 ≤ x ∧ x < ((2 ^ 64 : Nat) : Int) := by
  intro p hp x hx
  have hp' : p ∈ LI (wLv 9 0 (bwt D)).2 := hp
  obtain ⟨q, hq, rfl⟩ := List.mem_map.1 hp'
  obtain ⟨y, hy, rfl⟩ := List.mem_map.1 hx
  have := wLv_words64 [] 9 0 (bwt D) q hq y hy
  omega
theorem fmText_round (D : List Nat) (h1 : D.length ≤ 300) (h2 : ∀ x ∈ D, x < 256) (r : Nat) (h3 : 1 ≤ r) (h4 : r ≤ 64) (hb : bT (bwt D) = (ints D, true)) : spec_l09Text (fmV D r) = some (ints D, true) := by
  have hl := bwt_len D
  have hle := bwt_le D h2
  have hwb := wave_back (bwt D) (by omega) fun x hx => by have := hle x hx; omega
  have hlist := specWaveList_eq ((bwt D).length : Int) (ints (wLv 9 0 (bwt D)).1) (wLv 9 0 (bwt D)).2 (fun p hp => by rw [wLv_words 9 0 (bwt D) p hp]; unfold nw; omega) (wLv_words64 [] 9 0 (bwt D))
  rw [hwb.1, Int.toNat_natCast, hwb.2, bif_true] at hlist
  have hsm := fmV_small D h1 r
  rw [spec_l09Text.eq, specRate_eq]
  show (some (decide ((1 : Int) ≤ (r : Int)) && decide ((r : Int) ≤ 64))).bind _ = _
  rw [decide_eq_true (show (1 : Int) ≤ r by omega), decide_eq_true (show (r : Int) ≤ 64 by omega), Option.bind_some]
  have e3 : (fmV D r).2.2.1 = ((bwt D).length : Int) := rfl
  rw [Bool.and_true, Bool.not_true, bif_false, e3, bif_ndec (by omega), spec_l09Text_l0.eq]
  show ((spec_WaveList (((bwt D).length : Int), ints (wLv 9 0 (bwt D)).1, LI (wLv 9 0 (bwt D)).2)).bind _) = _
  rw [hlist, Option.bind_some, specBwtText_eq _ (by omega) hle, hb, Option.bind_some, Bool.not_true, bif_false]
  have hfs := specFm_eq D h1 h2 r (by omega) h4
  have e2 : (fmV D r).2.1 = (r : Int) := rfl
  simp only [e2, hfs, Option.bind_some, bne_self_eq_false, bif_false]
  rw [same_eq _ _ (by have := hsm.c; omega), l03Same_eq _ _ _ _ (by have := hsm.m; omega), l09Packs_eq _ _ _ _ _ _ _ _ (by have := hsm.s; omega), l09Packs_eq _ _ _ _ _ _ _ _ (by have := hsm.i; omega)]
  simp only [Option.bind_some, decide_true, Bool.not_true, bif_false]
end Go.Ev.W

/- Drawn inputs: rows of bits, packed numbers, texts, wavelet matrices: there is always something, within bounds. -/
set_option linter.unusedVariables false
set_option linter.unusedSimpArgs false
namespace Go.Ev.W
open Go.Ev

theorem pick2 (x : Int) (h0 : 0 ≤ x) (h1 : x < 2 ∨ x = 0) : ∃ b : Bool, x = bint b := by
  rcases Int.lt_or_le x 1 with h | h
  · exact ⟨false, by show x = 0; omega⟩
  · exact ⟨true, by show x = 1; omega⟩
theorem bool_ok (b : Bool) : spec_l01Bool b = some (bint b) := by rw [spec_l01Bool.eq]; cases b <;> rfl
theorem bints_snoc (bs : List Bool) (b : Bool) : bints bs ++ [bint b] = bints (bs ++ [b]) := by rw [← bints_app]; rfl
theorem row_l1 : ∀ (d k : Nat) (c : Cur) (bs : List Bool), CurOk k c → k + d + 1 < 100000000000 → bs.length + d = 5001 → ∃ bs' c', spec_l01Cur_row_l1 c.1 c.2.1 c.2.2 (bints bs) = some (bints bs', c') ∧ CurOk (k + d + 1) c' ∧ bs'.length ≤ 5001 := by
  intro d
  induction d with
  | zero =>
    intro k c bs h hk hl
    obtain ⟨x, c1, e1, g1, a1, b1⟩ := pick_ok h (by omega) 2
    rw [spec_l01Cur_row_l1.eq]
    simp only [pair_eta, e1, Option.bind_some]
    rw [bints_len, wrapI (x := 5000 + x) (by omega) (by omega), bif_ndec (by omega)]
    exact ⟨bs, c1, rfl, g1.mono (by omega), by omega⟩
  | succ d ih =>
    intro k c bs h hk hl
    obtain ⟨x, c1, e1, g1, a1, b1⟩ := pick_ok h (by omega) 2
    rw [spec_l01Cur_row_l1.eq]
    simp only [pair_eta, e1, Option.bind_some]
    rw [bints_len, wrapI (x := 5000 + x) (by omega) (by omega)]
    by_cases hlt : (bs.length : Int) < 5000 + x
    · have e2 : ((bs.length : Int).tmod 3).tdiv 2 = ((bs.length % 3 / 2 : Nat) : Int) := rfl
      obtain ⟨b, hb⟩ : ∃ b : Bool, IntKind.i64.wrap (((bs.length : Int).tmod 3).tdiv 2) = bint b := by
        rw [e2, wrapIn (by omega)]
        exact pick2 _ (by omega) (.inl (by omega))
      rw [bif_dec hlt, hb, bif_dec (by simp only [List.length_cons, List.length_nil]; omega), bints_snoc]
      obtain ⟨bs', c', e3, g3, h3⟩ := ih (k + 1) c1 (bs ++ [b]) g1 (by omega) (by simp only [List.length_append, List.length_cons, List.length_nil]; omega)
      exact ⟨bs', c', e3, g3.mono (by omega), h3⟩
    · rw [bif_ndec hlt]
      exact ⟨bs, c1, rfl, g1.mono (by omega), by omega⟩
theorem row_l0 (lean : Int) : ∀ (m k : Nat) (c : Cur) (bs : List Bool), CurOk k c → k + 2 * m + 5003 < 100000000000 → bs.length + m ≤ 5001 → ∃ bs' c', spec_l01Cur_row_l0 lean m c.1 c.2.1 c.2.2 (bints bs) = some (bints bs', c') ∧ CurOk (k + 2 * m + 5003) c' ∧ bs'.length ≤ 5001 := by
  intro m
  induction m with
  | zero =>
    intro k c bs h hk hl
    obtain ⟨x, c1, e1, g1⟩ := once_ok h (by omega) 60
    rw [spec_l01Cur_row_l0.eq, bif_ndec (by omega)]
    simp only [pair_eta, e1, Option.bind_some]
    cases x with
    | false => exact ⟨bs, c1, rfl, g1.mono (by omega), by omega⟩
    | true =>
      rw [bif_true]
      obtain ⟨bs', c', e2, g2, h2⟩ := row_l1 (5001 - bs.length) (k + 1) c1 bs g1 (by omega) (by omega)
      exact ⟨bs', c', e2, g2.mono (by omega), h2⟩
  | succ m ih =>
    intro k c bs h hk hl
    obtain ⟨x, c1, e1, g1, a1, b1⟩ := pick_ok h (by omega) 2
    rw [spec_l01Cur_row_l0.eq, bif_dec (by omega)]
    simp only [pair_eta, e1, Option.bind_some]
    rw [wrapI (x := ((m + 1 : Nat) : Int) - 1) (by omega) (by omega), show ((m + 1 : Nat) : Int) - 1 = m by omega]
    by_cases h0 : lean = 0
    · rw [bif_eq h0]
      obtain ⟨y, c2, e2, g2⟩ := once_ok g1 (by omega) 9
      simp only [e2, Option.bind_some, bool_ok]
      rw [bif_dec (by rw [bints_len]; simp only [List.length_cons, List.length_nil]; omega), bints_snoc]
      obtain ⟨bs', c', e3, g3, h3⟩ := ih (k + 2) c2 (bs ++ [y]) g2 (by omega) (by simp only [List.length_append, List.length_cons, List.length_nil]; omega)
      exact ⟨bs', c', e3, g3.mono (by omega), h3⟩
    · rw [bif_neq h0]
      obtain ⟨b, rfl⟩ := pick2 x a1 b1
      rw [bif_dec (by rw [bints_len]; simp only [List.length_cons, List.length_nil]; omega), bints_snoc]
      obtain ⟨bs', c', e3, g3, h3⟩ := ih (k + 1) c1 (bs ++ [b]) g1 (by omega) (by simp only [List.length_append, List.length_cons, List.length_nil]; omega)
      exact ⟨bs', c', e3, g3.mono (by omega), h3⟩
theorem row_ok {k : Nat} {c : Cur} (h : CurOk k c) (hk : k < 10000000000) : ∃ bs c', spec_l01Cur_row c = some (bints bs, c') ∧ CurOk (k + 10000) c' ∧ bs.length ≤ 5001 := by
  obtain ⟨x1, c1, e1, g1, a1, b1⟩ := pick_ok h (by omega) 4
  obtain ⟨x2, c2, e2, g2, a2, b2⟩ := pick_ok g1 (by omega) 3
  obtain ⟨y, y1, y2, y3⟩ := pick_list ([5, 40, 140] : List Int) x2 a2 (by simp; omega)
  obtain ⟨x3, c3, e3, g3, a3, b3⟩ := pick_ok g2 (by omega) y
  rw [spec_l01Cur_row.eq]
  simp only [pair_eta, e1, e2, Option.bind_some, y1, y2, e3]
  have hy : y ≤ 140 := by simp only [List.mem_cons, List.not_mem_nil, or_false] at y3; omega
  obtain ⟨m, rfl⟩ : ∃ m : Nat, x3 = m := ⟨x3.toNat, by omega⟩
  obtain ⟨bs', c', e4, g4, h4⟩ := row_l0 x1 m (k + 3) c3 [] g3 (by omega) (by simp; omega)
  exact ⟨bs', c', e4, g4.mono (by omega), h4⟩
theorem bitsOf_ok (bs : List Bool) : ∃ (n : Int) (W : List Nat) (b : Bool), spec_BitsOf (bints bs) = some ((n, ints W), b) ∧ W.length ≤ 79 ∧ ∀ x ∈ W, x < 2 ^ 64 := by
  by_cases h : bs.length ≤ 5000
  · exact ⟨_, _, true, specBitsOf_eq bs h, by rw [wrds_length]; unfold nw; omega, (wrds_tight bs).2.1⟩
  · refine ⟨0, [], false, ?_, by simp, by simp⟩
    rw [spec_BitsOf.eq, bints_len, bif_dec (by omega)]; rfl
theorem badBits_ok {k : Nat} {c : Cur} (h : CurOk k c) (hk : k < 10000000000) : ∃ (n : Int) (W : List Nat) (c' : Cur), spec_l01Cur_badBits c = some ((n, ints W), c') ∧ CurOk (k + 10010) c' ∧ W.length ≤ 80 ∧ ∀ x ∈ W, x < 2 ^ 64 := by
  obtain ⟨bs, c1, e1, g1, h1⟩ := row_ok h hk
  obtain ⟨n, W, b, e2, l2, w2⟩ := bitsOf_ok bs
  obtain ⟨x, c2, e3, g3, a3, b3⟩ := pick_ok g1 (by omega) 14
  rw [spec_l01Cur_badBits.eq]
  simp only [pair_eta, e1, Option.bind_some, e2, e3]
  by_cases q0 : x = 0
  · rw [bif_eq q0]
    obtain ⟨z, c4, e4, g4, _⟩ := raw_ok g3 (by omega)
    obtain ⟨z5, c5, e5, g5, a5, b5⟩ := pick_ok g4 (by omega) 3
    obtain ⟨y, y1, y2, y3⟩ := pick_list ([z, IntKind.i64.wrap (n + 1), IntKind.i64.wrap (n - 1)] : List Int) z5 a5 (by simp; omega)
    simp only [e4, Option.bind_some, e5, y1, y2]
    exact ⟨y, W, c5, rfl, g5.mono (by omega), by omega, w2⟩
  rw [bif_neq q0]
  by_cases q1 : x = 1
  · rw [bif_eq q1]
    obtain ⟨z5, c5, e5, g5, a5, b5⟩ := pick_ok g3 (by omega) 2
    obtain ⟨m, rfl⟩ : ∃ m : Nat, z5 = m := ⟨z5.toNat, by omega⟩
    simp only [e5, Option.bind_some]
    rw [wrapUn (by omega), bif_dec (by rw [ints_len]; simp only [List.length_cons, List.length_nil]; omega), ints_snoc]
    refine ⟨n, W ++ [m], c5, rfl, g5.mono (by omega), by simp; omega, fun x hx => ?_⟩
    rcases List.mem_append.1 hx with hx | hx
    · exact w2 x hx
    · rw [List.mem_singleton.1 hx]; omega
  rw [bif_neq q1]
  by_cases q2 : x = 2
  · rw [bif_eq q2, ints_len]
    by_cases hW : (W.length : Int) > 0
    · rw [bif_dec hW]
      obtain ⟨z5, c5, e5, g5, a5, b5⟩ := pick_ok g3 (by omega) W.length
      obtain ⟨m, rfl⟩ : ∃ m : Nat, z5 = m := ⟨z5.toNat, by omega⟩
      have hm : m < W.length := by omega
      simp only [e5, Option.bind_some]
      rw [at?_ints W m hm, Option.bind_some, Int.toNat_natCast, getElem?_ints W m hm, Option.bind_some]
      refine ⟨n, W.set m 18446744073709551615, c5, ?_, g5.mono (by omega), by rw [List.length_set]; omega, fun x hx => ?_⟩
      · rw [← ints_set]; rfl
      · rcases List.mem_or_eq_of_mem_set hx with hx | hx
        · exact w2 x hx
        · rw [hx]; decide
    · rw [bif_ndec hW]
      exact ⟨n, W, c2, rfl, g3.mono (by omega), by omega, w2⟩
  · rw [bif_neq q2]
    exact ⟨n, W, c2, rfl, g3.mono (by omega), by omega, w2⟩
theorem nums_ok {k : Nat} {c : Cur} (h : CurOk k c) (hk : k < 100000000000) (n : Nat) (hn : n ≤ 1000) (top : Int) : ∃ (X : List Nat) (c' : Cur), spec_l01Cur_numbers c n top = some (ints X, c') ∧ CurOk (k + 3000001) c' ∧ X.length ≤ n ∧ ∀ x ∈ X, (x : Int) < max 1 top := by
  obtain ⟨l, c', e, g, h1, h2⟩ := numbers_ok h hk n top (by omega) (by omega)
  obtain ⟨X, rfl, hX⟩ := ints_of l (max 1 top).toNat fun x hx => ⟨(h2 x hx).1, by have := (h2 x hx).2; omega⟩
  rw [ints_len] at h1
  exact ⟨X, c', e, g, by omega, fun x hx => by have := hX x hx; omega⟩
theorem badPacked_ok {k : Nat} {c : Cur} (h : CurOk k c) (hk : k < 1000000000) : ∃ (w n b : Int) (W : List Nat) (c' : Cur), spec_l01Cur_badPacked c = some ((w, n, b, ints W), c') ∧ CurOk (k + 4000000) c' ∧ W.length ≤ 80 ∧ ∀ x ∈ W, x < 2 ^ 64 := by
  obtain ⟨x1, c1, e1, g1, a1, b1⟩ := pick_ok h (by omega) 5
  obtain ⟨y, y1, y2, y3⟩ := pick_list ([0, 1, 3, 7, 24] : List Int) x1 a1 (by simp; omega)
  obtain ⟨w, rfl⟩ : ∃ w : Nat, y = w := ⟨y.toNat, by simp only [List.mem_cons, List.not_mem_nil, or_false] at y3; omega⟩
  have hw : w ≤ 24 := by simp only [List.mem_cons, List.not_mem_nil, or_false] at y3; omega
  have hp := Nat.two_pow_pos w
  obtain ⟨X, c2, e2, g2, l2, x2⟩ := nums_ok g1 (by omega) 20 (by omega) ((2 ^ w : Nat) : Int)
  have hXw : X.length * w ≤ 20 * 24 := Nat.mul_le_mul l2 hw
  have hpk := specPack_eq w (by omega) X (by omega) (by omega) (fun x hx => by have := x2 x hx; omega)
  have hpl := pk_words w X
  obtain ⟨x3, c3, e3, g3, a3, b3⟩ := pick_ok g2 (by omega) 12
  have hpw : ∀ x ∈ wrds (dgs w X), x < 2 ^ 64 := (wrds_tight _).2.1
  have hwl : (wrds (dgs w X)).length ≤ 79 := by rw [wrds_length, dgs_len]; unfold nw; omega
  rw [spec_l01Cur_badPacked.eq]
  have e2' : spec_l01Cur_numbers c1 20 ((2 ^ w : Nat) : Int) = some (ints X, c2) := e2
  simp only [pair_eta, e1, Option.bind_some, y1, y2, l02Pow_eq w (by omega), e2', hpk, e3]
  unfold pk
  by_cases q0 : x3 = 0
  · rw [bif_eq q0]
    obtain ⟨z, c4, e4, g4, _⟩ := raw_ok g3 (by omega)
    obtain ⟨z5, c5, e5, g5, a5, b5⟩ := pick_ok g4 (by omega) 3
    obtain ⟨y, y1, y2, y3⟩ := pick_list ([z, 32, 33] : List Int) z5 a5 (by simp; omega)
    simp only [e4, Option.bind_some, e5, y1, y2]
    exact ⟨_, _, _, _, c5, rfl, g5.mono (by omega), by omega, hpw⟩
  rw [bif_neq q0]
  by_cases q1 : x3 = 1
  · rw [bif_eq q1]
    obtain ⟨z, c4, e4, g4, _⟩ := raw_ok g3 (by omega)
    obtain ⟨z5, c5, e5, g5, a5, b5⟩ := pick_ok g4 (by omega) 2
    obtain ⟨y, y1, y2, y3⟩ := pick_list ([z, IntKind.i64.wrap ((X.length : Int) + 1)] : List Int) z5 a5 (by simp; omega)
    simp only [e4, Option.bind_some, e5, y1, y2]
    exact ⟨_, _, _, _, c5, rfl, g5.mono (by omega), by omega, hpw⟩
  rw [bif_neq q1]
  by_cases q2 : x3 = 2
  · rw [bif_eq q2]
    obtain ⟨n, W, c5, e5, g5, l5, w5⟩ := badBits_ok g3 (by omega)
    simp only [e5, Option.bind_some]
    exact ⟨_, _, _, _, c5, rfl, g5.mono (by omega), by omega, w5⟩
  · rw [bif_neq q2]
    exact ⟨_, _, _, _, c3, rfl, g3.mono (by omega), by omega, hpw⟩
end Go.Ev.W

/- What the laws' own helpers come to: marks in waves. -/
set_option linter.unusedVariables false
set_option linter.unusedSimpArgs false
namespace Go.Ev.W
open Go.Ev

def mBS : Int → List Nat → Lv
  | _, [] => []
  | k, m :: ms => (k, markF IntKind.u64.wrap (k + 1) m) :: mBS (k + 1 + m) ms
def mBE : Int → List Nat → Int
  | k, [] => k
  | k, m :: ms => mBE (k + 1 + m) ms
theorem mBE_eq : ∀ (k : Int) (ms : List Nat), mBE k ms = k + (ms.length + ms.sum : Nat)
  | k, [] => by simp [mBE]
  | k, m :: ms => by rw [mBE, mBE_eq, List.length_cons, List.sum_cons]; omega
theorem mBS_length : ∀ (k : Int) (ms : List Nat), (mBS k ms).length = ms.length
  | k, [] => rfl
  | k, m :: ms => by rw [mBS, List.length_cons, List.length_cons, mBS_length]
abbrev lens (L : Lv) : List Nat := L.map fun p => p.2.length
theorem Small.sum {Z : List Int} {L : Lv} (h : Small Z L) : Z.length + (lens L).length + (lens L).sum ≤ 1048576 := by
  have := h.s
  rw [List.length_map]; exact this
theorem Small.lw {Z : List Int} {L : Lv} (h : Small Z L) : ∀ m ∈ lens L, m ≤ 1048576 := by
  intro m hm
  obtain ⟨p, hp, rfl⟩ := List.mem_map.1 hm
  exact h.w p hp
end Go.Ev.W

/- Indexes: the laws' helpers. -/
set_option linter.unusedVariables false
set_option linter.unusedSimpArgs false
namespace Go.Ev.W
open Go.Ev

/-- What the guard gives. -/
structure GdFm (f : FmT) : Prop where
  sm : SmFm f 1048576
  wv : Small f.2.2.2.1 f.2.2.2.2.1
theorem guard2 {α : Type} (k n : Int) (a b : Option α) : (bif decide (k < 0) then a else bif decide (k > n) then a else b) = bif decide (0 ≤ k) && decide (k ≤ n) then b else a := by
  by_cases h1 : k < 0
  · rw [bif_dec h1, decide_eq_false (show ¬ 0 ≤ k by omega)]; rfl
  · rw [bif_ndec h1, decide_eq_true (show 0 ≤ k by omega), Bool.true_and]
    by_cases h2 : k > n
    · rw [bif_dec h2, decide_eq_false (show ¬ k ≤ n by omega)]; rfl
    · rw [bif_ndec h2, decide_eq_true (show k ≤ n by omega)]; rfl
theorem bif_not {α : Type} (c : Bool) (a b : α) : (bif !c then a else b) = bif c then b else a := by cases c <;> rfl
end Go.Ev.W

/- Where a word occurs: both functions. -/
set_option linter.unusedVariables false
set_option linter.unusedSimpArgs false
namespace Go.Ev.W
open Go.Ev

def bgn (X P : List Nat) : Bool := decide (X.take P.length = P)
theorem bgn_len {X P : List Nat} (h : bgn X P = true) : P.length ≤ X.length := by
  have h := of_decide_eq_true h
  rw [← h, List.length_take]; omega
theorem bgn_cmp : ∀ (X P : List Nat), bgn X P = true → ¬ cmpN X P < 0
  | [], [], _ => by show ¬ (0 : Int) < 0; omega
  | [], _ :: _, h => by have := bgn_len h; simp at this
  | _ :: _, [], _ => by show ¬ (1 : Int) < 0; omega
  | a :: X, b :: P, h => by
    have h1 := of_decide_eq_true h
    rw [List.length_cons, List.take_succ_cons] at h1
    injection h1 with h2 h3
    rw [cmpN, h2, if_neg (by omega), if_neg (by omega)]
    exact bgn_cmp X P (decide_eq_true h3)
theorem ints_takeN (X : List Nat) (n : Nat) : (ints X).take n = ints (X.take n) := (List.map_take).symm
theorem ints_dropN (X : List Nat) (n : Nat) : (ints X).drop n = ints (X.drop n) := (List.map_drop).symm
theorem drop_ints (D : List Nat) (a : Nat) : ((ints D).take D.length).drop a = ints (D.drop a) := by
  rw [ints_takeN, ints_dropN, List.take_of_length_le (Nat.le_refl _)]
theorem specBegins_eq (X P : List Nat) (hX : ByteL X) (hP : ByteL P) : spec_l05Begins (ints X) (ints P) = some (bgn X P) := by
  rw [spec_l05Begins.eq, ints_len, ints_len]
  by_cases h : P.length ≤ X.length
  · rw [bif_dec (by omega), bif_dec (by omega), Int.toNat_natCast, List.drop_zero, ints_takeN, strOf_eq _ _ (fun x hx => hX x (List.mem_of_mem_take hx)) hP]; rfl
  · rw [bif_ndec (by omega)]
    congr 1
    symm
    cases hb : bgn X P with
    | false => rfl
    | true => exact absurd (bgn_len hb) h
theorem prefix_eq (X P : List Nat) (hX : ByteL X) (hP : ByteL P) : bytes_HasPrefix (ints X) (ints P) = some (bgn X P) := by
  rw [bytes_HasPrefix.eq, ints_len, ints_len]
  by_cases h : P.length ≤ X.length
  · rw [bif_dec (by omega), bif_dec (by omega), Int.toNat_natCast, List.drop_zero, ints_takeN, bytes_Equal.eq, strOf_eq _ _ (fun x hx => hX x (List.mem_of_mem_take hx)) hP]; rfl
  · rw [bif_ndec (by omega)]
    congr 1
    symm
    cases hb : bgn X P with
    | false => rfl
    | true => exact absurd (bgn_len hb) h
theorem compare_eq (X P : List Nat) (hX : ByteL X) (hP : ByteL P) : bytes_Compare (ints X) (ints P) = some (cmpN X P) := by
  have e3 : bytealg_Compare (ints X) (ints P) = some (cmpN X P) := by
    unfold bytealg_Compare
    rw [show ((ints X).map fun x => x) = ints X from List.map_id _, show ((ints P).map fun x => x) = ints P from List.map_id _, cmpB_eq _ _ hX hP]
  rw [bytes_Compare.eq, e3]; rfl
def occ (D P : List Nat) (i : Nat) : List Nat := (List.range i).filter fun j => bgn (D.drop j) P
def low (D P : List Nat) (i : Nat) : Nat := ((List.range i).filter fun j => decide (cmpN (D.drop j) P < 0)).length
theorem rf_snoc (p : Nat → Bool) (i : Nat) : (List.range (i + 1)).filter p = (List.range i).filter p ++ (if p i then [i] else []) := by
  rw [List.range_succ, List.filter_append]
  cases h : p i <;> simp [h]
theorem occ_snoc (D P : List Nat) (i : Nat) : occ D P (i + 1) = occ D P i ++ (if bgn (D.drop i) P then [i] else []) := rf_snoc _ i
theorem low_snoc (D P : List Nat) (i : Nat) : low D P (i + 1) = low D P i + (if cmpN (D.drop i) P < 0 then 1 else 0) := by
  unfold low
  rw [rf_snoc, List.length_append]
  by_cases h : cmpN (D.drop i) P < 0
  · rw [decide_eq_true h, if_pos rfl, if_pos h]; rfl
  · rw [decide_eq_false h, if_neg h]; rfl
theorem occ_len (D P : List Nat) (i : Nat) : (occ D P i).length ≤ i := by
  unfold occ
  have := List.length_filter_le (fun j => bgn (D.drop j) P) (List.range i)
  rw [List.length_range] at this; exact this
theorem low_le (D P : List Nat) (i : Nat) : low D P i ≤ i := by
  unfold low
  have := List.length_filter_le (fun j => decide (cmpN (D.drop j) P < 0)) (List.range i)
  rw [List.length_range] at this; exact this
section
variable (D P : List Nat) (hl : D.length ≤ 300) (hD : ByteL D) (hP : ByteL P)
include hl hD hP
theorem specOcc_l0 : ∀ (d i : Nat), D.length + 1 - i = d → i ≤ D.length + 1 → spec_Occurs_l0 (ints D) (ints P) i (ints (occ D P i)) = some (ints (occ D P (D.length + 1)))
  | 0, i, h1, h2 => by
    obtain rfl : i = D.length + 1 := by omega
    rw [spec_Occurs_l0.eq, specTextOk_eq, decide_eq_true hl, Option.bind_some, bif_true, ints_len, bif_ndec (by omega)]
  | d + 1, i, h1, h2 => by
    have ho := occ_len D P i
    have ih := specOcc_l0 d (i + 1) (by omega) (by omega)
    rw [occ_snoc] at ih
    rw [spec_Occurs_l0.eq, specTextOk_eq, decide_eq_true hl, Option.bind_some, bif_true, ints_len, bif_dec (by omega), spec_Occurs_l1.eq, ints_len, bif_dec (by omega), Int.toNat_natCast, drop_ints, specBegins_eq _ _ (fun x hx => hD x (List.mem_of_mem_drop hx)) hP, Option.bind_some, wrapS i (by omega)]
    cases hb : bgn (D.drop i) P with
    | true =>
      rw [hb, if_pos rfl, ← ints_snoc] at ih
      rw [bif_true, bif_dec (by simp only [List.length_cons, List.length_nil, ints_len]; omega)]
      exact ih
    | false =>
      rw [hb, if_neg (by simp), List.append_nil] at ih
      rw [bif_false]
      exact ih
theorem specOcc_eq : spec_Occurs (ints D) (ints P) = some (ints (occ D P (D.length + 1))) := by
  rw [spec_Occurs.eq]
  exact specOcc_l0 D P hl hD hP _ 0 rfl (by omega)
theorem specRows_l0 (hPl : P.length ≤ 1048576) : ∀ (d i : Nat), D.length + 1 - i = d → i ≤ D.length + 1 → spec_RowsOf_l0 (ints D) (ints P) (low D P i : Nat) i = some (((low D P (D.length + 1) : Nat) : Int), ((low D P (D.length + 1) + (occ D P (D.length + 1)).length : Nat) : Int))
  | 0, i, h1, h2 => by
    obtain rfl : i = D.length + 1 := by omega
    have ho := occ_len D P (D.length + 1)
    have hw := low_le D P (D.length + 1)
    rw [spec_RowsOf_l0.eq, ints_len, bif_ndec (by omega), specOcc_eq D P hl hD hP, Option.bind_some, ints_len, wrapI (by omega) (by omega)]
    congr 2
  | d + 1, i, h1, h2 => by
    have hw := low_le D P i
    have ih := specRows_l0 hPl d (i + 1) (by omega) (by omega)
    rw [low_snoc] at ih
    rw [spec_RowsOf_l0.eq, ints_len, bif_dec (by omega), bif_dec (by omega), Int.toNat_natCast, drop_ints, l05Cmp_eq _ _ (by rw [List.length_drop]; omega) (by omega), Option.bind_some, wrapS i (by omega), wrapS (low D P i) (by omega)]
    by_cases hc : cmpN (D.drop i) P < 0
    · rw [if_pos hc] at ih
      rw [bif_dec hc]; exact ih
    · rw [if_neg hc, Nat.add_zero] at ih
      rw [bif_ndec hc]; exact ih
theorem specRows_eq (hPl : P.length ≤ 1048576) : spec_RowsOf (ints D) (ints P) = some (((low D P (D.length + 1) : Nat) : Int), ((low D P (D.length + 1) + (occ D P (D.length + 1)).length : Nat) : Int)) := by
  rw [spec_RowsOf.eq, specTextOk_eq, decide_eq_true hl, Option.bind_some, Bool.not_true, bif_false]
  exact specRows_l0 D P hl hD hP hPl _ 0 rfl (by omega)
theorem implRows_l0 : ∀ (d i : Nat), D.length + 1 - i = d → i ≤ D.length + 1 → impl_rowsOf_l0 (ints D) (ints P) (low D P i : Nat) ((occ D P i).length : Nat) (D.length + 1 : Nat) i = some (((low D P (D.length + 1) : Nat) : Int), ((low D P (D.length + 1) + (occ D P (D.length + 1)).length : Nat) : Int))
  | 0, i, h1, h2 => by
    obtain rfl : i = D.length + 1 := by omega
    have ho := occ_len D P (D.length + 1)
    have hw := low_le D P (D.length + 1)
    rw [impl_rowsOf_l0.eq, bif_ndec (by omega), wrapI (by omega) (by omega)]
    congr 2
  | d + 1, i, h1, h2 => by
    have hw := low_le D P i
    have ho := occ_len D P i
    have hDd : ByteL (D.drop i) := fun x hx => hD x (List.mem_of_mem_drop hx)
    have ih := implRows_l0 d (i + 1) (by omega) (by omega)
    rw [low_snoc, occ_snoc] at ih
    rw [impl_rowsOf_l0.eq, bif_dec (by omega), ints_len, bif_dec (by omega), Int.toNat_natCast, drop_ints, prefix_eq _ _ hDd hP, Option.bind_some, wrapS i (by omega), wrapS (low D P i) (by omega), wrapS (occ D P i).length (by omega)]
    cases hb : bgn (D.drop i) P with
    | true =>
      have hc := bgn_cmp _ _ hb
      rw [hb, if_pos rfl, if_neg hc, Nat.add_zero, List.length_append] at ih
      rw [bif_true]; exact ih
    | false =>
      rw [hb, if_neg (show ¬ (false = true) by simp), List.append_nil] at ih
      rw [bif_false, bif_dec (by omega), compare_eq _ _ hDd hP, Option.bind_some]
      by_cases hc : cmpN (D.drop i) P < 0
      · rw [if_pos hc] at ih
        rw [bif_dec hc]; exact ih
      · rw [if_neg hc, Nat.add_zero] at ih
        rw [bif_ndec hc]; exact ih
theorem implRows_eq : impl_rowsOf (ints D) (ints P) = some (((low D P (D.length + 1) : Nat) : Int), ((low D P (D.length + 1) + (occ D P (D.length + 1)).length : Nat) : Int)) := by
  rw [impl_rowsOf.eq, ints_len, wrapS _ (by omega)]
  exact implRows_l0 D P hl hD hP _ 0 rfl (by omega)
end
end Go.Ev.W

/- Drawn inputs: texts, wavelet matrices, indexes: there is always something, within bounds. -/
set_option linter.unusedVariables false
set_option linter.unusedSimpArgs false
namespace Go.Ev.W
open Go.Ev

theorem ba_at (A : ByteArray) (x : Int) (h0 : 0 ≤ x) (h1 : x < A.size) : ∃ u : UInt8, at? A.data.toList x = some u := by
  have hs : A.data.toList.length = A.size := Array.length_toList
  obtain ⟨y, y1, _, _⟩ := pick_list A.data.toList x h0 (by rw [hs]; exact h1)
  exact ⟨y, y1⟩
theorem ByteL.app {A B : List Nat} (h : ByteL A) (g : ByteL B) : ByteL (A ++ B) := fun x hx => (List.mem_append.1 hx).elim (h x) (g x)
theorem textOf_l0 (n : Nat) (hn : n ≤ 1000) (A : ByteArray) (hA : 1 ≤ A.size) : ∀ (m k : Nat) (c : Cur) (D : List Nat), CurOk k c → k + 3 * m < 100000000000 → D.length + 6 * m ≤ 1000000 → ByteL D →
    ∃ (D' : List Nat) (c' : Cur), spec_l01Cur_textOf_l0 n A m c.1 c.2.1 c.2.2 (ints D) = some (ints D', c') ∧ CurOk (k + 3 * m) c' ∧ D'.length ≤ n ∧ ByteL D' := by
  intro m
  induction m with
  | zero =>
    intro k c D h hk hl hD
    rw [spec_l01Cur_textOf_l0.eq, bif_ndec (by omega), ints_len]
    by_cases hlt : (D.length : Int) > n
    · rw [bif_dec hlt, bif_dec (by omega), Int.toNat_natCast, Nat.sub_zero, ints_takeN]
      exact ⟨D.take n, c, rfl, h, by rw [List.length_take]; omega, fun x hx => hD x (List.mem_of_mem_take hx)⟩
    · rw [bif_ndec hlt]
      exact ⟨D, c, rfl, h, by omega, hD⟩
  | succ m ih =>
    intro k c D h hk hl hD
    have letter : ∀ (k' : Nat) (c' : Cur), CurOk k' c' → k' ≤ k + 1 → ∃ (D' : List Nat) (c2 : Cur), ((spec_l01Cur_pick (c'.1, c'.2.1, c'.2.2) (A.size : Int)).bind fun y6 =>
        (at? A.data.toList y6.1).bind fun y7 =>
        bif decide (((ints D).length + ([(y7.toNat : Int)] : List Int).length) * 1 ≤ 140737488355328) then
          spec_l01Cur_textOf_l0 n A m y6.2.1 y6.2.2.1 y6.2.2.2 (ints D ++ ([(y7.toNat : Int)] : List Int))
        else
          none) = some (ints D', c2) ∧ CurOk (k + 3 * (m + 1)) c2 ∧ D'.length ≤ n ∧ ByteL D' := by
      intro k' c' h' hk'
      obtain ⟨x, c1, e1, g1, a1, b1⟩ := pick_ok h' (by omega) (A.size : Int)
      obtain ⟨u, hu⟩ := ba_at A x a1 (by omega)
      have hu2 : u.toNat < 256 := u.toNat_lt
      simp only [pair_eta, e1, Option.bind_some, hu]
      rw [bif_dec (by rw [ints_len]; simp only [List.length_cons, List.length_nil]; omega), ints_snoc]
      obtain ⟨D', c2, e2, g2, l2, b2⟩ := ih (k' + 1) c1 (D ++ [u.toNat]) g1 (by omega) (by simp only [List.length_append, List.length_cons, List.length_nil]; omega) (hD.app fun x hx => by rw [List.mem_singleton.1 hx]; exact hu2)
      exact ⟨D', c2, e2, g2.mono (by omega), l2, b2⟩
    rw [spec_l01Cur_textOf_l0.eq, bif_dec (by omega)]
    have em : IntKind.i64.wrap (((m + 1 : Nat) : Int) - 1) = m := by rw [wrapI (by omega) (by omega)]; omega
    simp only [em]
    by_cases h3 : ((ints D).length : Int) > 3
    · rw [bif_dec h3]
      rw [ints_len] at h3
      obtain ⟨b, c1, e1, g1⟩ := once_ok h (by omega) 6
      simp only [pair_eta, e1, Option.bind_some]
      cases b with
      | false =>
        rw [bif_false]
        exact letter (k + 1) c1 g1 (by omega)
      | true =>
        rw [bif_true]
        obtain ⟨x2, c2, e2, g2, a2, b2⟩ := pick_ok g1 (by omega) ((ints D).length : Int)
        obtain ⟨x3, c3, e3, g3, a3, b3⟩ := pick_ok g2 (by omega) 6
        simp only [pair_eta, e2, e3, Option.bind_some]
        rw [ints_len] at b2
        rw [wrapI (x := x2 + 1) (by omega) (by omega), wrapI (x := x2 + 1 + x3) (by omega) (by omega)]
        obtain ⟨t, ht⟩ : ∃ t, t = (if x2 + 1 + x3 < ((ints D).length : Int) then x2 + 1 + x3 else ((ints D).length : Int)) := ⟨_, rfl⟩
        rw [← ht]
        have ht2 : x2 ≤ t ∧ t ≤ (D.length : Int) ∧ t ≤ x2 + 6 := by
          rw [ints_len] at ht
          rw [ht]; split <;> omega
        have hsub : ((ints D).drop x2.toNat).take (t.toNat - x2.toNat) = ints ((D.drop x2.toNat).take (t.toNat - x2.toNat)) := by rw [ints_dropN, ints_takeN]
        have hsl : ((D.drop x2.toNat).take (t.toNat - x2.toNat)).length ≤ 6 := by rw [List.length_take]; omega
        rw [ints_len, bif_dec (by omega), bif_dec (by omega), hsub, ints_len, bif_dec (by omega), show ints D ++ ints ((D.drop x2.toNat).take (t.toNat - x2.toNat)) = ints (D ++ (D.drop x2.toNat).take (t.toNat - x2.toNat)) from List.map_append.symm]
        obtain ⟨D', c4, e4, g4, l4, b4⟩ := ih (k + 3) c3 (D ++ (D.drop x2.toNat).take (t.toNat - x2.toNat)) g3 (by omega) (by rw [List.length_append]; omega) (hD.app fun x hx => hD x (List.mem_of_mem_drop (List.mem_of_mem_take hx)))
        exact ⟨D', c4, e4, g4.mono (by omega), l4, b4⟩
    · rw [bif_ndec h3]
      exact letter k c h (by omega)
theorem textOf_ok {k : Nat} {c : Cur} (h : CurOk k c) (hk : k < 10000000000) (n : Nat) (hn : n ≤ 100) : ∃ (D : List Nat) (c' : Cur), spec_l01Cur_textOf c n = some (ints D, c') ∧ CurOk (k + 1000) c' ∧ D.length ≤ n ∧ ByteL D := by
  obtain ⟨x1, c1, e1, g1, a1, b1⟩ := pick_ok h (by omega) 5
  obtain ⟨y, y1, y2, y3⟩ := pick_list ([(⟨#[97]⟩ : ByteArray), (⟨#[97, 98]⟩ : ByteArray), (⟨#[97, 98, 99]⟩ : ByteArray), (⟨#[97, 99, 103, 116]⟩ : ByteArray), (⟨#[0, 255]⟩ : ByteArray)] : List ByteArray) x1 a1 (by simp; omega)
  obtain ⟨x2, c2, e2, g2, a2, b2⟩ := size_ok g1 (by omega) n (by omega) (by omega)
  obtain ⟨m, rfl⟩ : ∃ m : Nat, x2 = m := ⟨x2.toNat, by omega⟩
  have hA : 1 ≤ y.size := by
    simp only [List.mem_cons, List.not_mem_nil, or_false] at y3
    rcases y3 with rfl | rfl | rfl | rfl | rfl <;> decide
  rw [spec_l01Cur_textOf.eq]
  simp only [pair_eta, e1, Option.bind_some, y1, y2, e2]
  obtain ⟨D, c3, e3, g3, l3, b3⟩ := textOf_l0 n (by omega) y hA m (k + 2) c2 [] g2 (by omega) (by simp; omega) (fun x hx => by cases hx)
  exact ⟨D, c3, e3, g3.mono (by omega), l3, b3⟩
theorem rate_ok {k : Nat} {c : Cur} (h : CurOk k c) (hk : k < 10000000000) : ∃ (r : Nat) (c' : Cur), spec_l01Cur_rate c = some ((r : Int), c') ∧ CurOk (k + 1) c' ∧ 1 ≤ r ∧ r ≤ 64 := by
  obtain ⟨x1, c1, e1, g1, a1, b1⟩ := pick_ok h (by omega) 5
  obtain ⟨y, y1, y2, y3⟩ := pick_list ([1, 2, 3, 8, 64] : List Int) x1 a1 (by simp; omega)
  have hy : 1 ≤ y ∧ y ≤ 64 := by simp only [List.mem_cons, List.not_mem_nil, or_false] at y3; omega
  obtain ⟨r, rfl⟩ : ∃ r : Nat, y = r := ⟨y.toNat, by omega⟩
  rw [spec_l01Cur_rate.eq]
  simp only [pair_eta, e1, Option.bind_some, y1, y2]
  exact ⟨r, c1, rfl, g1, by omega, by omega⟩
/-- Levels within bounds. -/
def LvIn (L : List (Int × List Nat)) : Prop := L.length ≤ 9 ∧ ∀ p ∈ L, p.2.length ≤ 80 ∧ ∀ x ∈ p.2, x < 2 ^ 64
theorem wave_l0 {k : Nat} {c : Cur} (h : CurOk k c) (hk : k < 1000000000) (v3 : Int) (v4 : List Int) (v5 : Lv) (X : List Nat) (hX : X.length ≤ 100) (hx : ∀ x ∈ X, x ≤ 511) :
    ∃ (n : Int) (Z : List Int) (L : List (Int × List Nat)) (c' : Cur), spec_l01Cur_wave_l0 c.1 c.2.1 c.2.2 v3 v4 v5 (ints X) = some ((n, Z, LI L), c') ∧ CurOk (k + 20000) c' ∧ Z.length ≤ 10 ∧ LvIn L := by
  have hlen := wLv_len 9 0 X
  have hZ : (ints (wLv 9 0 X).1).length = 9 := by rw [ints_len]; exact hlen.1
  have hLl : (LI (wLv 9 0 X).2).length = 9 := (List.length_map ..).trans hlen.2
  have hin : LvIn (wLv 9 0 X).2 := ⟨by omega, fun p hp => ⟨by rw [wLv_words 9 0 X p hp]; unfold nw; omega, wLv_words64 X 9 0 X p hp⟩⟩
  obtain ⟨x1, c1, e1, g1, a1, b1⟩ := pick_ok h (by omega) 14
  rw [spec_l01Cur_wave_l0.eq, specWaveOf_eq X (by omega) hx]
  simp only [pair_eta, e1, Option.bind_some]
  by_cases q0 : x1 = 0
  · rw [bif_eq q0]
    obtain ⟨x2, c2, e2, g2, _⟩ := pick_ok g1 (by omega) 3
    simp only [e2, Option.bind_some]
    exact ⟨_, _, _, c2, rfl, g2.mono (by omega), by omega, hin⟩
  rw [bif_neq q0]
  by_cases q1 : x1 = 1
  · rw [bif_eq q1]
    obtain ⟨x2, c2, e2, g2, a2, b2⟩ := pick_ok g1 (by omega) 9
    obtain ⟨x3, c3, e3, g3, _⟩ := raw_ok g2 (by omega)
    obtain ⟨y, y1, y2, y3⟩ := pick_list (ints (wLv 9 0 X).1) x2 a2 (by omega)
    simp only [e2, e3, Option.bind_some, y1, y2]
    exact ⟨_, _, _, c3, rfl, g3.mono (by omega), by rw [List.length_set]; omega, hin⟩
  rw [bif_neq q1]
  by_cases q2 : x1 = 2
  · rw [bif_eq q2]
    obtain ⟨x2, c2, e2, g2, a2, b2⟩ := pick_ok g1 (by omega) 9
    obtain ⟨n, W, c3, e3, g3, l3, w3⟩ := badBits_ok g2 (by omega)
    obtain ⟨y, y1, y2, y3⟩ := pick_list (LI (wLv 9 0 X).2) x2 a2 (by omega)
    simp only [e2, e3, Option.bind_some, y1, y2]
    refine ⟨(X.length : Int), ints (wLv 9 0 X).1, (wLv 9 0 X).2.set x2.toNat (n, W), c3, ?_, g3.mono (by omega), by omega, by rw [List.length_set]; omega, fun p hp => ?_⟩
    · have : (LI (wLv 9 0 X).2).set x2.toNat (n, ints W) = LI ((wLv 9 0 X).2.set x2.toNat (n, W)) := (List.map_set (f := fun p : Int × List Nat => (p.1, ints p.2)) (l := (wLv 9 0 X).2) (i := x2.toNat) (a := (n, W))).symm
      rw [this]
    · rcases List.mem_or_eq_of_mem_set hp with hp | hp
      · exact hin.2 p hp
      · rw [hp]; exact ⟨l3, w3⟩
  rw [bif_neq q2]
  by_cases q3 : x1 = 3
  · rw [bif_eq q3]
    obtain ⟨x2, c2, e2, g2, a2, b2⟩ := pick_ok g1 (by omega) 9
    simp only [e2, Option.bind_some]
    rw [bif_dec (by omega)]
    refine ⟨(X.length : Int), ints (wLv 9 0 X).1, (wLv 9 0 X).2.take (x2.toNat - 0), c2, ?_, g2.mono (by omega), by omega, by rw [List.length_take]; omega, fun p hp => hin.2 p (List.mem_of_mem_take hp)⟩
    have : (LI (wLv 9 0 X).2).take (x2.toNat - 0) = LI ((wLv 9 0 X).2.take (x2.toNat - 0)) := (List.map_take).symm
    rw [this]
  rw [bif_neq q3]
  by_cases q4 : x1 = 4
  · rw [bif_eq q4, hZ, bif_dec (by simp only [List.length_cons, List.length_nil]; omega)]
    exact ⟨_, _, _, c1, rfl, g1.mono (by omega), by rw [List.length_append, hZ]; simp, hin⟩
  · rw [bif_neq q4]
    exact ⟨_, _, _, c1, rfl, g1.mono (by omega), by omega, hin⟩
theorem wave_ok {k : Nat} {c : Cur} (h : CurOk k c) (hk : k < 100000000) : ∃ (n : Int) (Z : List Int) (L : List (Int × List Nat)) (c' : Cur), spec_l01Cur_wave c = some ((n, Z, LI L), c') ∧ CurOk (k + 4000000) c' ∧ Z.length ≤ 10 ∧ LvIn L := by
  obtain ⟨x1, c1, e1, g1, a1, b1⟩ := pick_ok h (by omega) 3
  obtain ⟨y, y1, y2, y3⟩ := pick_list ([3, 100, 512] : List Int) x1 a1 (by simp; omega)
  have hy : 1 ≤ y ∧ y ≤ 512 := by simp only [List.mem_cons, List.not_mem_nil, or_false] at y3; omega
  obtain ⟨X, c2, e2, g2, l2, x2⟩ := nums_ok g1 (by omega) 24 (by omega) y
  obtain ⟨b, c3, e3, g3⟩ := once_ok g2 (by omega) 3
  have e2' : spec_l01Cur_numbers c1 24 y = some (ints X, c2) := e2
  rw [spec_l01Cur_wave.eq]
  simp only [pair_eta, e1, Option.bind_some, y1, y2, e2', e3]
  cases b with
  | false =>
    rw [bif_false]
    obtain ⟨n, Z, L, c4, e4, g4, h4⟩ := wave_l0 g3 (by omega) 0 [] [] X (by omega) (fun x hx => by have := x2 x hx; omega)
    exact ⟨n, Z, L, c4, e4, g4.mono (by omega), h4⟩
  | true =>
    rw [bif_true]
    obtain ⟨D, c4, e4, g4, l4, b4⟩ := textOf_ok g3 (by omega) 24 (by omega)
    have e4' : spec_l01Cur_textOf c3 24 = some (ints D, c4) := e4
    simp only [e4', Option.bind_some]
    rw [specBwt_eq D (by omega) b4, Option.bind_some]
    obtain ⟨n, Z, L, c5, e5, g5, h5⟩ := wave_l0 g4 (by omega) 0 [] [] (bwt D) (by rw [bwt_len]; omega) (fun x hx => by have := bwt_le D b4 x hx; omega)
    exact ⟨n, Z, L, c5, e5, g5.mono (by omega), h5⟩
/-- An index within bounds. -/
def FmIn (f : FmT) : Prop := SmFm f 1048576 ∧ ∀ p ∈ f.2.2.2.2.1, ∀ x ∈ p.2, 0 ≤ x ∧ x < ((2 ^ 64 : Nat) : Int)
theorem LvIn.words {L : List (Int × List Nat)} (h : LvIn L) : (LI L).length ≤ 9 ∧ (∀ p ∈ LI L, p.2.length ≤ 80) ∧ ∀ p ∈ LI L, ∀ x ∈ p.2, 0 ≤ x ∧ x < ((2 ^ 64 : Nat) : Int) := by
  refine ⟨by rw [List.length_map]; exact h.1, fun p hp => ?_, fun p hp x hx => ?_⟩
  · obtain ⟨q, hq, rfl⟩ := List.mem_map.1 hp
    rw [ints_len]; exact (h.2 q hq).1
  · obtain ⟨q, hq, rfl⟩ := List.mem_map.1 hp
    obtain ⟨y, hy, rfl⟩ := List.mem_map.1 hx
    have := (h.2 q hq).2 y hy
    omega
theorem fm_ok {k : Nat} {c : Cur} (h : CurOk k c) (hk : k < 10000000) : ∃ (f : FmT) (c' : Cur), spec_l01Cur_fm c = some (f, c') ∧ CurOk (k + 5000000) c' ∧ FmIn f := by
  obtain ⟨D, c1, e1, g1, l1, b1⟩ := textOf_ok h (by omega) 24 (by omega)
  have e1' : spec_l01Cur_textOf c 24 = some (ints D, c1) := e1
  obtain ⟨r, c2, e2, g2, r1, r2⟩ := rate_ok g1 (by omega)
  have e3 := specFm_eq D (by omega) b1 r (by omega) r2
  obtain ⟨x, c4, e4, g4, a4, b4⟩ := pick_ok g2 (by omega) 16
  have hs := fmV_small D (by omega) r
  have hw := fmV_words D r
  have hC : (fmV D r).2.2.2.2.2.1.length = 258 := by show (ints _).length = _; rw [ints_len, List.length_map, List.length_range]
  obtain ⟨f, hf⟩ : ∃ f, f = fmV D r := ⟨_, rfl⟩
  rw [← hf] at e3 hs hw hC
  obtain ⟨z, l, w, cc, m, s, i⟩ := hs
  rw [spec_l01Cur_fm.eq]
  simp only [pair_eta, e1', Option.bind_some, e2, e3, e4]
  by_cases q0 : x = 0
  · rw [bif_eq q0]
    obtain ⟨x5, c5, e5, g5, _⟩ := pick_ok g4 (by omega) 3
    simp only [e5, Option.bind_some]
    exact ⟨_, c5, rfl, g5.mono (by omega), ⟨by simp only; omega, by simp only; omega, fun p hp => by have := w p hp; omega, by simp only; omega, by simp only; omega, by simp only; omega, by simp only; omega⟩, hw⟩
  rw [bif_neq q0]
  by_cases q1 : x = 1
  · rw [bif_eq q1]
    obtain ⟨x5, c5, e5, g5, _⟩ := raw_ok g4 (by omega)
    obtain ⟨x6, c6, e6, g6, a6, b6⟩ := pick_ok g5 (by omega) 4
    obtain ⟨y, y1, y2, y3⟩ := pick_list ([x5, 64, 65, 2] : List Int) x6 a6 (by simp; omega)
    simp only [e5, e6, Option.bind_some, y1, y2]
    exact ⟨_, c6, rfl, g6.mono (by omega), ⟨by simp only; omega, by simp only; omega, fun p hp => by have := w p hp; omega, by simp only; omega, by simp only; omega, by simp only; omega, by simp only; omega⟩, hw⟩
  rw [bif_neq q1]
  by_cases q2 : x = 2
  · rw [bif_eq q2]
    obtain ⟨n, Z, L, c5, e5, g5, hZ, hL⟩ := wave_ok g4 (by omega)
    obtain ⟨k1, k2, k3⟩ := hL.words
    simp only [e5, Option.bind_some]
    exact ⟨_, c5, rfl, g5.mono (by omega), ⟨by simp only; omega, by simp only; omega, fun p hp => by have := k2 p hp; omega, by simp only; omega, by simp only; omega, by simp only; omega, by simp only; omega⟩, k3⟩
  rw [bif_neq q2]
  by_cases q3 : x = 3
  · rw [bif_eq q3]
    obtain ⟨x5, c5, e5, g5, a5, b5⟩ := pick_ok g4 (by omega) 250
    obtain ⟨x6, c6, e6, g6, _⟩ := raw_ok g5 (by omega)
    obtain ⟨y, y1, y2, y3⟩ := pick_list f.2.2.2.2.2.1 x5 a5 (by omega)
    simp only [e5, e6, Option.bind_some, y1, y2]
    exact ⟨_, c6, rfl, g6.mono (by omega), ⟨by simp only; omega, by simp only; omega, fun p hp => by have := w p hp; omega, by simp only [List.length_set]; omega, by simp only; omega, by simp only; omega, by simp only; omega⟩, hw⟩
  rw [bif_neq q3]
  by_cases q4 : x = 4
  · rw [bif_eq q4]
    obtain ⟨n, W, c5, e5, g5, l5, _⟩ := badBits_ok g4 (by omega)
    simp only [e5, Option.bind_some]
    have hl : (ints W).length ≤ 80 := by rw [ints_len]; exact l5
    exact ⟨_, c5, rfl, g5.mono (by omega), ⟨by simp only; omega, by simp only; omega, fun p hp => by have := w p hp; omega, by simp only; omega, by simp only; omega, by simp only; omega, by simp only; omega⟩, hw⟩
  rw [bif_neq q4]
  by_cases q5 : x = 5
  · rw [bif_eq q5]
    obtain ⟨u, n, b, W, c5, e5, g5, l5, _⟩ := badPacked_ok g4 (by omega)
    simp only [e5, Option.bind_some]
    have hl : (ints W).length ≤ 80 := by rw [ints_len]; exact l5
    exact ⟨_, c5, rfl, g5.mono (by omega), ⟨by simp only; omega, by simp only; omega, fun p hp => by have := w p hp; omega, by simp only; omega, by simp only; omega, by simp only; omega, by simp only; omega⟩, hw⟩
  rw [bif_neq q5]
  by_cases q6 : x = 6
  · rw [bif_eq q6]
    exact ⟨_, c4, rfl, g4.mono (by omega), ⟨by simp only; omega, by simp only; omega, fun p hp => by have := w p hp; omega, by simp only; omega, by simp only; omega, by simp only; omega, by simp only; omega⟩, hw⟩
  · rw [bif_neq q6]
    exact ⟨_, c4, rfl, g4.mono (by omega), ⟨by omega, by omega, fun p hp => by have := w p hp; omega, by omega, by omega, by omega, by omega⟩, hw⟩
theorem place_ok {k : Nat} {c : Cur} (h : CurOk k c) (hk : k < 1000000000) (n : Int) (h0 : 0 ≤ n) (h1 : n ≤ 1000000) : ∃ (x : Int) (c' : Cur), spec_l01Cur_place c n = some (x, c') ∧ CurOk (k + 5) c' := by
  rw [spec_l01Cur_place.eq]
  obtain ⟨x1, c1, e1, g1, _⟩ := pick_ok h (by omega) (if IntKind.i64.wrap (n + (2 : Int)) > (1 : Int) then IntKind.i64.wrap (n + (2 : Int)) else (1 : Int))
  obtain ⟨x2, c2, e2, g2, _⟩ := raw_ok g1 (by omega)
  obtain ⟨x3, c3, e3, g3, _⟩ := pick_ok g2 (by omega) (if n > (1 : Int) then n else (1 : Int))
  obtain ⟨x4, c4, e4, g4, a4, b4⟩ := pick_ok g3 (by omega) 5
  obtain ⟨y, y1, y2, y3⟩ := pick_list ([x1, n, IntKind.i64.wrap (n - (1 : Int)), x2, x3] : List Int) x4 a4 (by simp; omega)
  simp only [pair_eta, e1, e2, e3, e4, Option.bind_some, y1, y2]
  exact ⟨y, c4, rfl, g4.mono (by omega)⟩
theorem pattern_ok {k : Nat} {c : Cur} (h : CurOk k c) (hk : k < 1000000000) (T : List Nat) (hT : T.length ≤ 1000) (hb : ByteL T) : ∃ (P : List Nat) (c' : Cur), spec_l01Cur_pattern c (ints T) = some (ints P, c') ∧ CurOk (k + 2000) c' ∧ P.length ≤ 20 ∧ ByteL P := by
  rw [spec_l01Cur_pattern.eq]
  have small : ∀ (k' : Nat) (c2 : Cur), CurOk k' c2 → k' ≤ k + 1 → ∃ (P : List Nat) (c' : Cur), ((spec_l01Cur_textOf c2 4).bind fun y5 => some (y5.1, y5.2)) = some (ints P, c') ∧ CurOk (k + 2000) c' ∧ P.length ≤ 20 ∧ ByteL P := by
    intro k' c2 h2 hk2
    obtain ⟨D, c3, e3, g3, l3, b3⟩ := textOf_ok h2 (by omega) 4 (by omega)
    have e3' : spec_l01Cur_textOf c2 4 = some (ints D, c3) := e3
    rw [e3']
    exact ⟨D, c3, rfl, g3.mono (by omega), by omega, b3⟩
  by_cases h0 : ((ints T).length : Int) > 0
  · rw [bif_dec h0]
    rw [ints_len] at h0
    obtain ⟨b, c1, e1, g1⟩ := once_ok h (by omega) 4
    rw [e1, Option.bind_some]
    cases b with
    | true =>
      rw [Bool.not_true, bif_false]
      exact small (k + 1) c1 g1 (by omega)
    | false =>
      rw [Bool.not_false, bif_true]
      obtain ⟨x2, c2, e2, g2, a2, b2⟩ := pick_ok g1 (by omega) (if ((ints T).length : Int) < (256 : Int) then ((ints T).length : Int) else (256 : Int))
      obtain ⟨x3, c3, e3, g3, a3, b3⟩ := pick_ok g2 (by omega) 6
      rw [e2, Option.bind_some, e3, Option.bind_some]
      simp only
      have hx2 : x2 < T.length := by
        rw [ints_len] at b2
        split at b2 <;> omega
      rw [wrapI (x := x2 + x3) (by omega) (by omega)]
      obtain ⟨t, ht⟩ : ∃ t, t = (if x2 + x3 < ((ints T).length : Int) then x2 + x3 else ((ints T).length : Int)) := ⟨_, rfl⟩
      rw [← ht]
      have ht2 : x2 ≤ t ∧ t ≤ (T.length : Int) ∧ t ≤ x2 + 6 := by
        rw [ints_len] at ht
        rw [ht]; split <;> omega
      have hsub : ((ints T).drop x2.toNat).take (t.toNat - x2.toNat) = ints ((T.drop x2.toNat).take (t.toNat - x2.toNat)) := by rw [ints_dropN, ints_takeN]
      have hsl : ((T.drop x2.toNat).take (t.toNat - x2.toNat)).length ≤ 6 := by rw [List.length_take]; omega
      have hbs : ByteL ((T.drop x2.toNat).take (t.toNat - x2.toNat)) := fun x hx => hb x (List.mem_of_mem_drop (List.mem_of_mem_take hx))
      obtain ⟨b4, c4, e4, g4⟩ := once_ok g3 (by omega) 6
      rw [ints_len, bif_dec (by omega), bif_dec (by omega), hsub, ints_len, bif_dec (by simp only [List.length_nil]; omega), List.nil_append]
      rw [e4, Option.bind_some]
      cases b4 with
      | true =>
        rw [bif_true, ints_len, bif_dec (by simp only [List.length_cons, List.length_nil]; omega)]
        exact ⟨(T.drop x2.toNat).take (t.toNat - x2.toNat) ++ [98], c4, by rw [← ints_snoc]; rfl, g4.mono (by omega), by simp only [List.length_append, List.length_cons, List.length_nil]; omega, hbs.app fun x hx => by rw [List.mem_singleton.1 hx]; omega⟩
      | false => exact ⟨_, c4, rfl, g4.mono (by omega), by omega, hbs⟩
  · rw [bif_ndec h0]
    exact small k c h (by omega)

theorem bigD_eq (xs : List Int) : laws_big xs = some (decide ((xs.length : Int) > 1048576)) := laws_big.eq xs
theorem codeD_bytes {xs : List Int} (h : AllP (α := Tup [CT.int .u8]) (allL (goodC 4) [CT.int .u8]) xs) (hl : ¬ (xs.length : Int) > 1048576) : Bytes xs := by
  refine ⟨by omega, fun x hx => ?_⟩
  have := h.2 x hx
  have : (Lit.int .u8 x).wf = true := this
  simp only [Lit.wf, Bool.and_eq_true, decide_eq_true_eq] at this
  exact this
end Go.Ev.W

/- How many bits are as told: both functions. -/
set_option linter.unusedVariables false
set_option linter.unusedSimpArgs false
namespace Go.Ev.W
open Go.Ev

theorem countB_l0 (bs : List Bool) (b : Bool) (hn : bs.length ≤ 5000) : ∀ (d i : Nat), bs.length - i = d → i ≤ bs.length → impl_count_l0 (bint b) (bef bs i b : Nat) (bints bs) bs.length i = some ((bef bs bs.length b : Nat) : Int)
  | 0, i, h1, h2 => by
    obtain rfl : i = bs.length := by omega
    rw [impl_count_l0.eq, bif_ndec (by omega)]
  | d + 1, i, h1, h2 => by
    have hi : i < bs.length := by omega
    have hz := bef_le bs i b
    have ih := countB_l0 bs b hn d (i + 1) (by omega) (by omega)
    rw [bef_succ bs i b hi] at ih
    rw [impl_count_l0.eq, bif_dec (by omega), at?_bints bs i hi, Option.bind_some, bint_eq, wrapS i (by omega), wrapS (bef bs i b) (by omega)]
    cases hb : (bs[i] == b) with
    | true => rw [hb, if_pos rfl] at ih; rw [bif_true]; exact ih
    | false => rw [hb, if_neg (by simp), Nat.add_zero] at ih; rw [bif_false]; exact ih
theorem bef_zero (bs : List Bool) (b : Bool) : bef bs 0 b = 0 := rfl
theorem countB_eq (bs : List Bool) (b : Bool) (hn : bs.length ≤ 5000) : impl_count (bints bs) (bint b) = some ((bef bs bs.length b : Nat) : Int) := by
  rw [impl_count.eq, List.length_map]
  have := countB_l0 bs b hn _ 0 rfl (by omega)
  rw [bef_zero] at this
  exact this
theorem rankB_l1 (bs : List Bool) (b : Bool) (hn : bs.length ≤ 5000) : ∀ (d i : Nat), bs.length - i = d → i ≤ bs.length → spec_Rank_l1 (bint b) bs.length (bef bs i b : Nat) i (bints bs) = some ((bef bs bs.length b : Nat) : Int)
  | 0, i, h1, h2 => by
    obtain rfl : i = bs.length := by omega
    rw [spec_Rank_l1.eq, bif_ndec (by omega)]
  | d + 1, i, h1, h2 => by
    have hi : i < bs.length := by omega
    have hz := bef_le bs i b
    have ih := rankB_l1 bs b hn d (i + 1) (by omega) (by omega)
    rw [bef_succ bs i b hi] at ih
    rw [spec_Rank_l1.eq, bif_dec (by omega), at?_bints bs i hi, Option.bind_some, Int.toNat_natCast, get?_bints bs i hi, Option.bind_some, bint_eq, wrapS i (by omega), wrapS (bef bs i b) (by omega)]
    cases hb : (bs[i] == b) with
    | true => rw [hb, if_pos rfl] at ih; rw [bif_true]; exact ih
    | false => rw [hb, if_neg (by simp), Nat.add_zero] at ih; rw [bif_false]; exact ih
theorem bit_bint (b : Bool) : spec_l01Bit (bint b) = some true := by
  rw [spec_l01Bit.eq]
  cases b <;> rfl
theorem rankB_eq (m : Nat) (W : List Nat) (b : Bool) (hm : m ≤ 5000) (hl : W.length ≤ 1048576) (hx : ∀ x ∈ W, x < 2 ^ 64) (hv : vOk m W = true) : spec_Rank ((m : Int), ints W) (bint b) m = some ((bef (bts m W) m b : Nat) : Int) := by
  rw [spec_Rank.eq]
  try simp only
  have ht := (okW_iff m W hx).1 (by simp only [vOk, Bool.and_eq_true] at hv; simpa using hv.2)
  have hb := bts_length m W
  rw [specBitsOk_eq _ W hl hx, Option.bind_some, hv, Bool.not_true, bif_false, bit_bint, Option.bind_some, Bool.not_true, bif_false, bif_ndec (by omega), bif_ndec (by omega), spec_Rank_l0.eq,
    l01List_eq m W hm (by have := ht.1; unfold nw at this; omega) hx, Option.bind_some]
  have := rankB_l1 (bts m W) b (by omega) _ 0 rfl (by omega)
  rw [bef_zero, hb] at this
  exact this
end Go.Ev.W

/- Sparse lists: plain facts. -/
set_option linter.unusedVariables false
set_option linter.unusedSimpArgs false
namespace Go.Ev.W
open Go.Ev

/-- The bits of quotients: z zeros are there already. -/
def hiB (u Q : Nat) : Nat → List Nat → List Bool
  | z, [] => List.replicate (Q + 1 - z) false
  | z, x :: X => List.replicate (x / u - z) false ++ true :: hiB u Q (x / u) X
/-- The numbers of bits and low parts; ones without a low part are passed over. -/
def deS (u : Nat) : List Bool → Nat → List Nat → List Nat
  | [], _, _ => []
  | false :: bs, q, L => deS u bs (q + 1) L
  | true :: bs, q, [] => deS u bs q []
  | true :: bs, q, l :: L => (q * u + l) :: deS u bs q L
def ones (bs : List Bool) : Nat := (bs.filter id).length
theorem ones_cons (b : Bool) (bs : List Bool) : ones (b :: bs) = (if b then 1 else 0) + ones bs := by
  unfold ones
  rw [List.filter_cons]
  cases b <;> simp <;> omega
theorem ones_app (a b : List Bool) : ones (a ++ b) = ones a + ones b := by unfold ones; rw [List.filter_append, List.length_append]
theorem ones_rep (n : Nat) : ones (List.replicate n false) = 0 := by
  induction n with
  | zero => rfl
  | succ n ih => rw [List.replicate_succ, ones_cons, ih]; rfl
theorem ones_hiB (u Q : Nat) : ∀ (z : Nat) (X : List Nat), ones (hiB u Q z X) = X.length
  | z, [] => by rw [hiB, ones_rep]; rfl
  | z, x :: X => by rw [hiB, ones_app, ones_rep, ones_cons, ones_hiB u Q _ X, List.length_cons]; simp; omega
theorem deS_len (u : Nat) : ∀ (bs : List Bool) (q : Nat) (L : List Nat), (deS u bs q L).length = min (ones bs) L.length
  | [], _, _ => by simp [deS, ones]
  | false :: bs, q, L => by rw [deS, deS_len u bs, ones_cons]; simp
  | true :: bs, q, [] => by rw [deS, deS_len u bs]; simp
  | true :: bs, q, l :: L => by rw [deS, List.length_cons, deS_len u bs, ones_cons, List.length_cons]; simp; omega
/-- Quotients rise from z on and stay below Q. -/
def Ris (u Q : Nat) : Nat → List Nat → Prop
  | z, [] => z ≤ Q + 1
  | z, x :: X => z ≤ x / u ∧ Ris u Q (x / u) X
theorem hiB_len (u Q : Nat) : ∀ (z : Nat) (X : List Nat), Ris u Q z X → z ≤ Q + 1 ∧ (hiB u Q z X).length = X.length + (Q + 1 - z)
  | z, [], h => by
    refine ⟨h, ?_⟩
    rw [hiB, List.length_replicate]; simp
  | z, x :: X, h => by
    obtain ⟨h1, h2⟩ := h
    have ih := hiB_len u Q (x / u) X h2
    refine ⟨by omega, ?_⟩
    rw [hiB, List.length_append, List.length_replicate, List.length_cons, ih.2, List.length_cons]; omega
theorem deS_bound (u : Nat) : ∀ (bs : List Bool) (q : Nat) (L : List Nat), (∀ l ∈ L, l < u) → ∀ x ∈ deS u bs q L, x < (q + bs.length) * u + u
  | [], _, _, _, x, h => by cases h
  | false :: bs, q, L, hL, x, h => by
    have := deS_bound u bs (q + 1) L hL x h
    rw [List.length_cons]
    rwa [show q + (bs.length + 1) = q + 1 + bs.length by omega]
  | true :: bs, q, [], hL, x, h => by
    have := deS_bound u bs q [] hL x h
    rw [List.length_cons, show q + (bs.length + 1) = (q + bs.length) + 1 by omega, Nat.add_mul]; omega
  | true :: bs, q, l :: L, hL, x, h => by
    rw [List.length_cons, show q + (bs.length + 1) = (q + bs.length) + 1 by omega, Nat.add_mul]
    rw [deS] at h
    rcases List.mem_cons.1 h with h | h
    · have h1 := hL l List.mem_cons_self
      have h2 : q * u ≤ (q + bs.length) * u := Nat.mul_le_mul_right _ (by omega)
      omega
    · have := deS_bound u bs q L (fun l hl => hL l (List.mem_cons_of_mem _ hl)) x h
      omega
theorem hiB_one (u Q q x : Nat) (X : List Nat) (h : x / u = q) : hiB u Q q (x :: X) = true :: hiB u Q q X := by
  rw [hiB, h, Nat.sub_self]; rfl
theorem hiB_zero (u Q q : Nat) (X : List Nat) (hq : q ≤ Q) (h : Ris u Q q X) (hx : ∀ x, X.head? = some x → x / u ≠ q) : hiB u Q q X = false :: hiB u Q (q + 1) X ∧ Ris u Q (q + 1) X := by
  cases X with
  | nil =>
    refine ⟨?_, by show q + 1 ≤ Q + 1; omega⟩
    rw [hiB, hiB, show Q + 1 - q = (Q + 1 - (q + 1)) + 1 by omega, List.replicate_succ]
  | cons x X =>
    obtain ⟨h1, h2⟩ := h
    have h3 := hx x rfl
    refine ⟨?_, ⟨by omega, h2⟩⟩
    rw [hiB, hiB, show x / u - q = (x / u - (q + 1)) + 1 by omega, List.replicate_succ, List.cons_append]
theorem Ris_tail (u Q q x : Nat) (X : List Nat) (h : Ris u Q q (x :: X)) : Ris u Q (x / u) X := h.2
theorem Ris_of (u Q : Nat) (hu : 0 < u) : ∀ (z : Nat) (X : List Nat), z ≤ Q + 1 → (∀ x ∈ X, z ≤ x / u ∧ x / u ≤ Q) → X.Pairwise (· ≤ ·) → Ris u Q z X
  | z, [], h, _, _ => h
  | z, x :: X, h, h1, h2 => by
    have h3 := h1 x List.mem_cons_self
    obtain ⟨h4, h5⟩ := List.pairwise_cons.1 h2
    exact ⟨h3.1, Ris_of u Q hu (x / u) X (by omega) (fun y hy => ⟨Nat.div_le_div_right (h4 y hy), (h1 y (List.mem_cons_of_mem _ hy)).2⟩) h5⟩
/-- The low width. -/
def lwd (n U : Nat) : Nat := if n = 0 then 0 else wd (U / n) - 1
end Go.Ev.W

/- Sparse lists: widths, packed numbers as a list. -/
set_option linter.unusedVariables false
set_option linter.unusedSimpArgs false
namespace Go.Ev.W
open Go.Ev

/-! #### widths -/
theorem wdF_fuel : ∀ (f j n : Nat), n < 2 ^ j → j ≤ f → wdF f n = wdF j n
  | 0, j, n, h, hj => by
    obtain rfl : j = 0 := by omega
    rfl
  | f + 1, 0, n, h, hj => by
    obtain rfl : n = 0 := by simpa using h
    simp [wdF]
  | f + 1, j + 1, n, h, hj => by
    rw [wdF, wdF]
    by_cases h0 : n = 0
    · rw [if_pos h0, if_pos h0]
    · rw [if_neg h0, if_neg h0, wdF_fuel f j (n / 2) (by rw [Nat.pow_succ] at h; omega) (by omega)]
theorem wdF_half : ∀ (k f n : Nat), 2 ^ k ≤ n → wdF (f + k) n = wdF f (n / 2 ^ k) + k
  | 0, f, n, _ => by simp
  | k + 1, f, n, h => by
    rw [Nat.pow_succ] at h
    have h0 : n ≠ 0 := by have := Nat.two_pow_pos k; omega
    rw [show f + (k + 1) = (f + k) + 1 by omega, wdF, if_neg h0, wdF_half k f (n / 2) (by omega), Nat.div_div_eq_div_mul, Nat.pow_succ, Nat.mul_comm 2, Nat.add_assoc]
theorem wd_half (k n : Nat) (hk : k ≤ 16) (h : 2 ^ k ≤ n) (hn : n < 1099511627776) : wd n = wd (n / 2 ^ k) + k := by
  unfold wd
  have h1 := wdF_half k (64 - k) n h
  rw [show 64 - k + k = 64 by omega] at h1
  have h2 : n / 2 ^ k < 2 ^ 40 := Nat.lt_of_le_of_lt (Nat.div_le_self _ _) (by omega)
  rw [h1, wdF_fuel (64 - k) 40 _ h2 (by omega), wdF_fuel 64 40 _ h2 (by omega)]
theorem len_a : ∀ n : Nat, n < 256 → bits_Len64_l1 (n : Int) 0 = some ((wd n : Nat) : Int) := by
  intro n
  rw [bits_Len64_l1.eq]
  revert n
  decide +kernel
theorem len_b (n : Nat) (h : 256 ≤ n) (h2 : n < 65536) : bits_Len64_l1 (n : Int) 0 = some ((wd n : Nat) : Int) := by
  rw [bits_Len64_l1.eq, bif_dec (by omega), fdiv_nat, wd_half 8 n (by omega) (by omega) (by omega), show 2 ^ 8 = 256 from rfl]
  have hm : n / 256 < 256 := by omega
  generalize n / 256 = m at hm
  revert m
  decide +kernel
theorem len_c (n : Nat) (h : 65536 ≤ n) (h2 : n < 16777216) : bits_Len64_l1 ((n / 65536 : Nat) : Int) 16 = some ((wd n : Nat) : Int) := by
  rw [bits_Len64_l1.eq, bif_ndec (by omega), wd_half 16 n (by omega) (by omega) (by omega), show 2 ^ 16 = 65536 from rfl]
  have hm : n / 65536 < 256 := by omega
  generalize n / 65536 = m at hm
  revert m
  decide +kernel
theorem implWidthG_eq (n : Nat) (h : n < 16777216) : impl_WidthOf n = some ((wd n : Nat) : Int) := by
  rw [impl_WidthOf.eq, bif_ndec (by omega), wrapUn (by omega), bits_Len.eq, bits_Len64.eq, bif_ndec (by omega), bits_Len64_l0.eq]
  by_cases h1 : 65536 ≤ n
  · rw [bif_dec (by omega), fdiv_nat, show IntKind.i64.wrap ((0 : Int) + 16) = 16 from rfl, show 2 ^ 16 = 65536 from rfl, len_c n h1 h]; rfl
  · rw [bif_ndec (by omega)]
    by_cases h2 : 256 ≤ n
    · rw [len_b n h2 (by omega)]; rfl
    · rw [len_a n (by omega)]; rfl
theorem wd_le20 {n : Nat} (h : n ≤ 1000000) : wd n ≤ 20 := wdF_le 64 n 20 (by omega)
theorem lwd_le (n U : Nat) (hU : U ≤ 1000000) : lwd n U ≤ 19 := by
  unfold lwd
  split
  · omega
  · have hd : U / n ≤ U := Nat.div_le_self _ _
    have hw := wd_le20 (n := U / n) (by omega)
    omega

/-! #### packed numbers as a list -/
def hv (W : List Nat) (o w : Nat) : Nat → Nat
  | 0 => 0
  | d + 1 => 2 * hv W o w d + (bit W (o + (w - (d + 1)))).toNat
theorem hv_lt (W : List Nat) (o w : Nat) : ∀ d, hv W o w d < 2 ^ d
  | 0 => by show 0 < 2 ^ 0; omega
  | d + 1 => by
    have := hv_lt W o w d
    have hb : (bit W (o + (w - (d + 1)))).toNat ≤ 1 := by cases bit W (o + (w - (d + 1))) <;> simp
    rw [hv, Nat.pow_succ]; omega
def pkL (w n : Nat) (W : List Nat) : List Nat := (List.range n).map fun i => hv W (i * w) w w
theorem pkL_len (w n : Nat) (W : List Nat) : (pkL w n W).length = n := by unfold pkL; rw [List.length_map, List.length_range]
theorem pkL_lt (w n : Nat) (W : List Nat) : ∀ x ∈ pkL w n W, x < 2 ^ w := by
  intro x hx
  unfold pkL at hx
  obtain ⟨i, _, rfl⟩ := List.mem_map.1 hx
  exact hv_lt W _ w w
theorem pkL_snoc (w : Nat) (W : List Nat) (i : Nat) : ints (pkL w i W) ++ [((hv W (i * w) w w : Nat) : Int)] = ints (pkL w (i + 1) W) := by
  rw [ints_snoc]
  unfold pkL
  rw [List.range_succ, List.map_append]; rfl
theorem or_big (v : Nat) (b : Bool) (hv : v < 1099511627776) : IntKind.i64.wrap (((BitVec.ofInt 64 (IntKind.i64.wrap ((v : Int) * 2 ^ 1))) ||| (BitVec.ofInt 64 (bint b))).toNat : Int) = ((2 * v + b.toNat : Nat) : Int) := by
  have e1 : (v : Int) * 2 ^ 1 = ((2 * v : Nat) : Int) := by simp; omega
  have hb : b.toNat ≤ 1 := by cases b <;> simp
  have e3 : IntKind.i64.wrap ((2 * v : Nat) : Int) = ((2 * v : Nat) : Int) := wrapIn (by omega)
  rw [e1, e3]
  have h1 := bv_or 64 (2 * v) b.toNat (by omega) (by omega)
  unfold bint
  have e2 : 2 * v ||| b.toNat = 2 * v + b.toNat := by
    have := Nat.two_pow_add_eq_or_of_lt (i := 1) (b := b.toNat) (by omega) v
    simpa using this.symm
  rw [h1, e2, wrapIn (by omega)]
theorem pk_idx (w n i d : Nat) (hi : i < n) (hd : d < w) : i * w + (w - (d + 1)) < n * w := by
  have : (i + 1) * w ≤ n * w := Nat.mul_le_mul_right _ (by omega)
  rw [Nat.add_mul] at this; omega
section
variable (w n : Nat) (W : List Nat) (hw : w ≤ 32) (hn : n ≤ 5000) (hm : n * w ≤ 5000) (hx : ∀ x ∈ W, x < 2 ^ 64) (ht : tight (n * w) W)
include hw hn hm hx ht
theorem implPk_l0 (i : Nat) (hi : i < n) : ∀ (r d : Nat), w - d = r → d ≤ w → impl_Packed_at_l0 i (hv W (i * w) w d : Nat) ((w : Int) - 1 - d) w n ((n * w : Nat) : Int) (ints W) = some ((hv W (i * w) w w : Nat) : Int)
  | 0, d, h1, h2 => by
    have _ := hn
    obtain rfl : d = w := by omega
    rw [impl_Packed_at_l0.eq, bif_ndec (by omega)]
  | r + 1, d, h1, h2 => by
    have hidx := pk_idx w n i d hi (by omega)
    have hl := hv_lt W (i * w) w d
    have hp : 2 ^ d ≤ 2 ^ 32 := Nat.pow_le_pow_right (by omega) (by omega)
    have e1 : ((i : Int) * (w : Int)) = ((i * w : Nat) : Int) := by simp
    have e2 : IntKind.i64.wrap (((i * w : Nat) : Int) + ((w : Int) - 1 - (d : Int))) = ((i * w + (w - (d + 1)) : Nat) : Int) := by rw [wrapI (by omega) (by omega)]; omega
    rw [impl_Packed_at_l0.eq, bif_dec (by omega), e1, wrapIn (z := i * w) (by omega), e2, bitsAt_eq _ W hx _ (by omega) (by have := ht.1; unfold nw at this; omega), Option.bind_some, or_big _ _ (by omega), wrapI (x := (w : Int) - 1 - (d : Int) - 1) (by omega) (by omega), show (w : Int) - 1 - (d : Int) - 1 = (w : Int) - 1 - ((d + 1 : Nat) : Int) by omega]
    exact implPk_l0 i hi r (d + 1) (by omega) (by omega)
end
theorem pOk_nat {w n b : Int} {W : List Nat} (h : pOk w n b W = true) : ∃ w' n' : Nat, w = w' ∧ n = n' ∧ b = ((n' * w' : Nat) : Int) ∧ w' ≤ 32 ∧ n' ≤ 5000 ∧ n' * w' ≤ 5000 ∧ vOk ((n' * w' : Nat) : Int) W = true := by
  have h' := h
  simp only [pOk, vOk, Bool.and_eq_true, decide_eq_true_eq] at h'
  obtain ⟨⟨⟨⟨h1, h2⟩, h3, h4⟩, ⟨⟨h5, h6⟩, h7⟩⟩, h8⟩ := h'
  obtain ⟨w', rfl⟩ : ∃ m : Nat, w = m := ⟨w.toNat, by omega⟩
  obtain ⟨n', rfl⟩ : ∃ m : Nat, n = m := ⟨n.toNat, by omega⟩
  have hb : b = ((n' * w' : Nat) : Int) := by rw [h8, Nat.mul_comm]; simp
  refine ⟨w', n', rfl, rfl, hb, by omega, by omega, by omega, ?_⟩
  simp only [pOk, Bool.and_eq_true] at h
  rw [← hb]; exact h.1.2
end Go.Ev.W

/- Walking back in a text by its rows: plain facts. -/
set_option linter.unusedVariables false
set_option linter.unusedSimpArgs false
namespace Go.Ev.W
open Go.Ev

theorem filter_len_perm {p : Nat → Bool} {A B : List Nat} (h : A.Perm B) : (A.filter p).length = (B.filter p).length := (h.filter p).length_eq
theorem srt_perm (D : List Nat) : (srt D).Perm (List.range (D.length + 1)) := List.mergeSort_perm ..
def sufB (D : List Nat) (a b : Nat) : Bool := decide (cmpN (D.drop a) (D.drop b) < 0)
theorem sufB_iff (D : List Nat) (a b : Nat) : sufB D a b = true ↔ sufLt D a b := decide_eq_true_iff
theorem srt_split (D : List Nat) (k : Nat) (hk : k < (srt D).length) (q : Nat → Bool) : ((srt D).take k).filter q = (srt D).filter fun t => sufB D t (srt D)[k] && q t := by
  have hpw := (srt_SS D).pw
  have h1 : ((srt D).take k).filter (fun t => sufB D t (srt D)[k] && q t) = ((srt D).take k).filter q := by
    refine List.filter_congr fun t ht => ?_
    obtain ⟨i, hi, rfl⟩ := List.mem_iff_getElem.1 ht
    rw [List.length_take] at hi
    rw [List.getElem_take, (sufB_iff D _ _).2 (get_lt hpw (show i < k by omega) hk), Bool.true_and]
  have h2 : ((srt D).drop k).filter (fun t => sufB D t (srt D)[k] && q t) = [] := by
    refine List.filter_eq_nil_iff.2 fun t ht => ?_
    obtain ⟨i, hi, rfl⟩ := List.mem_iff_getElem.1 ht
    rw [List.length_drop] at hi
    rw [List.getElem_drop]
    have : ¬ sufLt D (srt D)[k + i] (srt D)[k] := by
      by_cases h0 : i = 0
      · subst h0; exact sufLt_irrefl D _
      · intro h
        exact sufLt_irrefl D _ (sufLt_trans (get_lt hpw (show k < k + i by omega) (by omega)) h)
    cases hb : sufB D (srt D)[k + i] (srt D)[k] with
    | false => simp
    | true => exact absurd ((sufB_iff D _ _).1 hb) this
  generalize (srt D)[k] = z at h1 h2 ⊢
  have e : (srt D).filter (fun t => sufB D t z && q t) = ((srt D).take k ++ (srt D).drop k).filter (fun t => sufB D t z && q t) := by rw [List.take_append_drop]
  rw [e, List.filter_append, h2, List.append_nil, h1]
theorem srt_rank (D : List Nat) (k : Nat) (hk : k < (srt D).length) : ((List.range (D.length + 1)).filter fun t => sufB D t (srt D)[k]).length = k := by
  have h := srt_split D k hk (fun _ => true)
  rw [← filter_len_perm (srt_perm D)]
  have e : (fun t => sufB D t (srt D)[k] && true) = fun t => sufB D t (srt D)[k] := by funext t; rw [Bool.and_true]
  rw [e] at h
  rw [← h, List.filter_eq_self.2 (fun _ _ => rfl), List.length_take]; omega
theorem filter_add (A B C : Nat → Bool) : ∀ l : List Nat, (∀ t ∈ l, (A t).toNat + (B t).toNat = (C t).toNat) → (l.filter A).length + (l.filter B).length = (l.filter C).length
  | [], _ => rfl
  | t :: l, h => by
    have ih := filter_add A B C l fun x hx => h x (List.mem_cons_of_mem _ hx)
    have ht := h t List.mem_cons_self
    rw [List.filter_cons, List.filter_cons, List.filter_cons]
    cases hA : A t <;> cases hB : B t <;> cases hC : C t <;> rw [hA, hB, hC] at ht <;> simp at ht ⊢ <;> omega
theorem filter_range_succ (P : Nat → Bool) (n : Nat) : ((List.range (n + 1)).filter P).length = (P 0).toNat + ((List.range n).filter fun t => P (t + 1)).length := by
  rw [List.range_succ_eq_map, List.filter_cons, List.filter_map]
  have e : (P ∘ Nat.succ) = fun t => P (t + 1) := rfl
  rw [e]
  cases P 0 <;> simp <;> omega
theorem filter_range_last (P : Nat → Bool) (n : Nat) : ((List.range (n + 1)).filter P).length = ((List.range n).filter P).length + (P n).toNat := by
  rw [List.range_succ, List.filter_append, List.length_append]
  cases h : P n <;> simp [h]
theorem drop_cons (D : List Nat) (t : Nat) (h : t < D.length) : D.drop t = D[t] :: D.drop (t + 1) := List.drop_eq_getElem_cons h
/-- From a row to the row of the suffix that is one longer. -/
theorem lf_row (D : List Nat) (k : Nat) (hk : k < (srt D).length) (h0 : (srt D)[k] ≠ 0) : ∃ h : lfV (bwt D) k < (srt D).length, (srt D)[lfV (bwt D) k] + 1 = (srt D)[k] := by
  have hlen := srt_len' D
  have hmem := (srt_mem D _).1 (List.getElem_mem hk)
  obtain ⟨s, hs⟩ : ∃ s, (srt D)[k] = s + 1 := ⟨(srt D)[k] - 1, by omega⟩
  have hsl : s < D.length := by omega
  obtain ⟨j, hj, hjs⟩ := List.mem_iff_getElem.1 ((srt_mem D s).2 (by omega))
  have hr := srt_rank D j hj
  rw [hjs] at hr
  have hbk : k < (bwt D).length := by rw [bwt_len]; omega
  have hX : (bwt D)[k] = D[s] + 1 := by
    have e0 : (bwt D)[k] = bwS D (srt D)[k] := by simp [bwt]
    rw [e0, hs]
    unfold bwS
    rw [if_neg (by omega), Nat.add_sub_cancel, List.getD_eq_getElem?_getD, List.getElem?_eq_getElem hsl]; rfl
  have key : lfV (bwt D) k = j := by
    rw [lfV_at _ _ hbk, hX]
    unfold ltc eqc
    have e1 : ((bwt D).filter fun x => decide (x < D[s] + 1)).length = ((List.range (D.length + 1)).filter fun t => decide (bwS D t < D[s] + 1)).length := by
      rw [← filter_len_perm (srt_perm D)]
      unfold bwt
      rw [List.filter_map, List.length_map]; rfl
    have e2 : (((bwt D).take k).filter fun x => decide (x = D[s] + 1)).length = ((List.range (D.length + 1)).filter fun t => sufB D t (s + 1) && decide (bwS D t = D[s] + 1)).length := by
      rw [← filter_len_perm (srt_perm D)]
      unfold bwt
      rw [← List.map_take, List.filter_map, List.length_map]
      have := srt_split D k hk (fun t => decide (bwS D t = D[s] + 1))
      rw [hs] at this
      rw [← this]; rfl
    rw [e1, e2, filter_range_succ, filter_range_succ, ← hr, filter_range_last]
    have z1 : decide (bwS D 0 < D[s] + 1) = true := decide_eq_true (by unfold bwS; rw [if_pos rfl]; omega)
    have z2 : (sufB D 0 (s + 1) && decide (bwS D 0 = D[s] + 1)) = false := by
      rw [show decide (bwS D 0 = D[s] + 1) = false from decide_eq_false (by unfold bwS; rw [if_pos rfl]; omega), Bool.and_false]
    have z3 : sufB D D.length s = true := by
      unfold sufB
      rw [List.drop_length, drop_cons D s hsl]; rfl
    rw [z1, z2, z3]
    have hadd := filter_add (fun t => decide (bwS D (t + 1) < D[s] + 1)) (fun t => sufB D (t + 1) (s + 1) && decide (bwS D (t + 1) = D[s] + 1)) (fun t => sufB D t s) (List.range D.length) (by
      intro t ht
      have htl : t < D.length := List.mem_range.1 ht
      have hb : bwS D (t + 1) = D[t] + 1 := by
        unfold bwS
        rw [if_neg (by omega), Nat.add_sub_cancel, List.getD_eq_getElem?_getD, List.getElem?_eq_getElem htl]; rfl
      unfold sufB
      rw [hb, drop_cons D t htl, drop_cons D s hsl, cmpN]
      by_cases h1 : D[t] < D[s]
      · rw [if_pos h1, decide_eq_true (show D[t] + 1 < D[s] + 1 by omega), decide_eq_false (show ¬ D[t] + 1 = D[s] + 1 by omega), Bool.and_false]; rfl
      · rw [if_neg h1, decide_eq_false (show ¬ D[t] + 1 < D[s] + 1 by omega)]
        by_cases h2 : D[s] < D[t]
        · rw [if_pos h2, decide_eq_false (show ¬ D[t] + 1 = D[s] + 1 by omega), Bool.and_false]; rfl
        · rw [if_neg h2, decide_eq_true (show D[t] + 1 = D[s] + 1 by omega), Bool.and_true]
          exact Nat.zero_add _)
    show 1 + _ + (0 + _) = _ + 1
    omega
  refine ⟨by rw [key]; exact hj, ?_⟩
  simp only [key, hjs, hs]

/-! #### digits that are put behind one another -/
theorem dg_get (w n i : Nat) (h : i < w) : (dg w n).getD i false = n.testBit i := by
  unfold dg
  rw [List.getD_eq_getElem?_getD, List.getElem?_map, List.getElem?_range h]; rfl
theorem dgs_get (w : Nat) : ∀ (X : List Nat) (j i : Nat) (_ : i < w) (hj : j < X.length), (dgs w X).getD (j * w + i) false = X[j].testBit i
  | x :: X, 0, i, h, _ => by
    have e : dgs w (x :: X) = dg w x ++ dgs w X := rfl
    rw [e, Nat.zero_mul, Nat.zero_add, List.getD_eq_getElem?_getD, List.getElem?_append_left (by rw [dg_len]; exact h), ← List.getD_eq_getElem?_getD]
    exact dg_get w x i h
  | x :: X, j + 1, i, h, hj => by
    have e : dgs w (x :: X) = dg w x ++ dgs w X := rfl
    rw [e, List.getD_eq_getElem?_getD, List.getElem?_append_right (by rw [dg_len, Nat.add_mul]; omega), dg_len, show (j + 1) * w + i - w = j * w + i by rw [Nat.add_mul]; omega, ← List.getD_eq_getElem?_getD]
    exact dgs_get w X j i h (by simpa using hj)
theorem hv_pk (w : Nat) (X : List Nat) (j : Nat) (hj : j < X.length) (hx : X[j] < 2 ^ w) : ∀ d, d ≤ w → hv (wrds (dgs w X)) (j * w) w d = X[j] / 2 ^ (w - d)
  | 0, _ => by rw [hv, Nat.sub_zero, Nat.div_eq_of_lt hx]
  | d + 1, h => by
    rw [hv, hv_pk w X j hj hx d (by omega), bit_wrds, dgs_get w X j _ (by omega) hj]
    have e : 2 ^ (w - d) = 2 ^ (w - (d + 1)) * 2 := by rw [← Nat.pow_succ]; congr 1; omega
    rw [e, ← Nat.div_div_eq_div_mul, Nat.testBit_eq_decide_div_mod_eq]
    generalize X[j] / 2 ^ (w - (d + 1)) = q
    by_cases hq : q % 2 = 1
    · rw [decide_eq_true hq]; show 2 * (q / 2) + 1 = q; omega
    · rw [decide_eq_false hq]; show 2 * (q / 2) + 0 = q; omega
theorem filter_at (p : Nat → Bool) (S : List Nat) (k : Nat) (hk : k < S.length) (hp : p S[k] = true) : (S.filter p)[((S.take k).filter p).length]? = some S[k] := by
  have e : S.filter p = (S.take k).filter p ++ (S[k] :: (S.drop (k + 1)).filter p) := by
    conv => lhs; rw [← List.take_append_drop k S, List.filter_append, List.drop_eq_getElem_cons hk, List.filter_cons, hp]
    rfl
  rw [e, List.getElem?_append_right (Nat.le_refl _), Nat.sub_self]; rfl
end Go.Ev.W

/- The law of FmWalk: rows and suffixes, step by step. -/
set_option linter.unusedVariables false
set_option linter.unusedSimpArgs false
namespace Go.Ev.W
open Go.Ev

theorem walk_vals (f : FmT) (hf : FmIn f) (k : Int) : ∃ s h : Int, impl_FmSa f k = some s ∧ spec_FmSa f k = some s ∧ impl_FmHops f k = some h ∧ spec_FmHops f k = some h ∧
    (s < 0 ∨ ∃ (D : List Nat) (r m : Nat) (hm : m < (srt D).length), f = fmV D r ∧ D.length ≤ 300 ∧ ByteL D ∧ 1 ≤ r ∧ r ≤ 64 ∧ impl_Fm_read f = some (ints D, true) ∧ k = m ∧ s = ((srt D)[m] : Nat) ∧ h = ((srt D)[m] % r : Nat)) := by
  obtain ⟨v, D, t, h1, h2, h3⟩ := fmRead_eq f hf.1 hf.2
  have e1 : impl_FmSa f k = _ := impl_FmSa.eq f k
  have e2 : spec_FmSa f k = _ := spec_FmSa.eq f k
  have e3 : impl_FmHops f k = _ := impl_FmHops.eq f k
  have e4 : spec_FmHops f k = _ := spec_FmHops.eq f k
  cases v with
  | false =>
    rw [show impl_Fm_read f = some (t, false) from h2] at e1 e3
    rw [show spec_l09Text f = some (([] : List Int), false) from h1] at e2
    have e2' : spec_FmSa f k = some (-1) := e2
    rw [e2'] at e4
    exact ⟨-1, -1, e1, e2', e3, e4, .inl (by omega)⟩
  | true =>
    obtain ⟨⟨d1, d2, d3, d4, d5⟩, _⟩ := h3 rfl
    have h2' : impl_Fm_read f = some (ints D, true) := h2
    rw [h2', Option.bind_some] at e1 e3
    rw [show spec_l09Text f = some (ints D, true) from h1, Option.bind_some] at e2
    simp only [Bool.not_true, bif_false] at e1 e2 e3
    rw [withinN_eq, ints_len, Option.bind_some, bif_not] at e1 e3
    rw [ints_len, guard2] at e2
    have hs := srt_len' D
    by_cases hk : 0 ≤ k ∧ k ≤ D.length
    · obtain ⟨m, rfl⟩ : ∃ m : Nat, k = m := ⟨k.toNat, by omega⟩
      have hg : (decide ((0 : Int) ≤ (m : Int)) && decide ((m : Int) ≤ (D.length : Int))) = true := by rw [Bool.and_eq_true, decide_eq_true_eq, decide_eq_true_eq]; exact hk
      have hml : m < (srt D).length := by omega
      rw [hg, bif_true, implSuf_eq D d1 d2, Option.bind_some] at e1 e3
      rw [hg, bif_true, specSuf_eq D d1, Option.bind_some] at e2
      rw [at?_nat, Int.toNat_natCast, getElem?_ints _ m hml] at e1 e2 e3
      simp only [Option.bind_some] at e1 e2 e3
      rw [bif_ndec (by omega)] at e3
      rw [e2, Option.bind_some, bif_ndec (by omega), bif_ndec (by omega)] at e4
      obtain ⟨r, hr⟩ : ∃ r : Nat, f.2.1 = r := ⟨f.2.1.toNat, by omega⟩
      have ev : ((((srt D)[m] : Nat) : Int).tmod f.2.1) = (((srt D)[m] % r : Nat) : Int) := by rw [hr]; rfl
      rw [ev] at e3 e4
      rw [hr, Int.toNat_natCast] at d5
      exact ⟨_, _, e1, e2, e3, e4, .inr ⟨D, r, m, hml, d5, d1, d2, by omega, by omega, h2', rfl, rfl, rfl⟩⟩
    · have hg : (decide ((0 : Int) ≤ k) && decide (k ≤ (D.length : Int))) = false := by rw [Bool.and_eq_false_iff, decide_eq_false_iff_not, decide_eq_false_iff_not]; omega
      rw [hg, bif_false] at e1 e2 e3
      rw [e2] at e4
      exact ⟨-1, -1, e1, e2, e3, e4, .inl (by omega)⟩
section
variable (D : List Nat) (hD : D.length ≤ 300) (hb : ByteL D) (r : Nat) (h1 : 1 ≤ r) (h2 : r ≤ 64)
include hD
theorem mark_ok : vOk ((mkB r (srt D)).length : Int) (wrds (mkB r (srt D))) = true := by
  have hl : (mkB r (srt D)).length = D.length + 1 := by rw [mkB_len, srt_len']
  have ht := wrds_tight (mkB r (srt D))
  simp only [vOk, Bool.and_eq_true, decide_eq_true_eq, Int.toNat_natCast]
  exact ⟨⟨by omega, by omega⟩, (okW_iff _ _ ht.2.1).2 ht⟩
theorem mark_at (a : Nat) (ha : a < (srt D).length) : impl_BitAt (((mkB r (srt D)).length : Int), ints (wrds (mkB r (srt D)))) a = some (bint (isM r (srt D)[a])) := by
  have hl : (mkB r (srt D)).length = D.length + 1 := by rw [mkB_len, srt_len']
  have hs := srt_len' D
  have ht := wrds_tight (mkB r (srt D))
  have hwl : (wrds (mkB r (srt D))).length = nw (mkB r (srt D)).length := wrds_length _
  rw [impl_BitAt.eq, implBitsOk_eq _ _ (by rw [hwl]; unfold nw; omega) ht.2.1, mark_ok D hD r, Option.bind_some, Bool.not_true, bif_false]
  simp only
  rw [wrapI (by omega) (by omega), withinN_eq, Option.bind_some, decide_eq_true (show (0 : Int) ≤ a by omega), decide_eq_true (show (a : Int) ≤ ((mkB r (srt D)).length : Int) - 1 by omega), Bool.and_true, Bool.not_true, bif_false,
    bitsAt_eq _ _ ht.2.1 a (by omega) (by rw [hwl]; unfold nw; omega), Option.bind_some, bit_wrds, List.getD_eq_getElem?_getD]
  unfold mkB
  rw [List.getElem?_map, List.getElem?_eq_getElem ha]; rfl
theorem mark_rank (a : Nat) (ha : a ≤ (srt D).length) : impl_Rank (((mkB r (srt D)).length : Int), ints (wrds (mkB r (srt D)))) 1 a = some (((((srt D).take a).filter (isM r)).length : Nat) : Int) := by
  have hl : (mkB r (srt D)).length = D.length + 1 := by rw [mkB_len, srt_len']
  have hs := srt_len' D
  have ht := wrds_tight (mkB r (srt D))
  have hwl : (wrds (mkB r (srt D))).length = nw (mkB r (srt D)).length := wrds_length _
  have hbl := bts_wrds (mkB r (srt D))
  have e1 : impl_isBit 1 = some true := by rw [impl_isBit.eq]; rfl
  have e2 : ((bints (mkB r (srt D))).drop 0).take ((a : Int).toNat - 0) = bints ((mkB r (srt D)).take a) := by rw [List.drop_zero, Int.toNat_natCast, Nat.sub_zero]; exact (List.map_take).symm
  have e3 := countB_eq ((mkB r (srt D)).take a) true (by rw [List.length_take]; omega)
  rw [impl_Rank.eq, implBitsOk_eq _ _ (by rw [hwl]; unfold nw; omega) ht.2.1, mark_ok D hD r, Option.bind_some, Bool.not_true, bif_false, e1, Option.bind_some, Bool.not_true, bif_false]
  simp only
  rw [withinN_eq, Option.bind_some, decide_eq_true (show (0 : Int) ≤ a by omega), decide_eq_true (show (a : Int) ≤ ((mkB r (srt D)).length : Int) by omega), Bool.and_true, Bool.not_true, bif_false,
    bitsList_eq _ _ (by omega) ht.2.1 ht, Option.bind_some, hbl, bints_len, bif_dec (by omega), e2, show (1 : Int) = bint true from rfl, e3, Option.bind_some]
  congr 2
  unfold bef mkB
  rw [List.take_length, ← List.map_take, List.filter_map, List.length_map]
  congr 1
  exact List.filter_congr fun x _ => by show (isM r x == true) = _; simp
include h1 in
theorem sa_at (a : Nat) (ha : a < (srt D).length) (hp : isM r (srt D)[a] = true) : impl_PackAt (pk (wd D.length) (saL r (srt D))) (((((srt D).take a).filter (isM r)).length : Nat) : Int) = some (((srt D)[a] / r : Nat) : Int) := by
  have _ := h1
  have hs := srt_len' D
  have hw := wd_le9 (n := D.length) (by omega)
  have hsl := saL_len r (srt D)
  have hps := pk_size (n := (saL r (srt D)).length) (w := wd D.length) (by omega) hw
  have hsx := sa_lt D r (by omega)
  have hf := filter_at (isM r) (srt D) a ha hp
  obtain ⟨X, hX⟩ : ∃ X, X = saL r (srt D) := ⟨_, rfl⟩
  obtain ⟨j, hj⟩ : ∃ j, j = (((srt D).take a).filter (isM r)).length := ⟨_, rfl⟩
  have hXj : X[j]? = some ((srt D)[a] / r) := by
    rw [hX, hj]
    unfold saL
    rw [List.getElem?_map, hf]; rfl
  rw [← hX] at hsl hps hsx ⊢
  rw [← hj]
  have hjl : j < X.length := by
    rcases Nat.lt_or_ge j X.length with h | h
    · exact h
    · rw [List.getElem?_eq_none h] at hXj; cases hXj
  have hXv : X[j] = (srt D)[a] / r := by rw [List.getElem?_eq_getElem hjl] at hXj; exact Option.some.inj hXj
  have hd : (dgs (wd D.length) X).length = X.length * wd D.length := dgs_len _ _
  have ht := wrds_tight (dgs (wd D.length) X)
  have hwl : (wrds (dgs (wd D.length) X)).length = nw (dgs (wd D.length) X).length := wrds_length _
  rw [hd] at ht hwl
  have hpa := implPk_l0 (wd D.length) X.length (wrds (dgs (wd D.length) X)) (by omega) (by omega) hps ht.2.1 ht j hjl _ 0 rfl (by omega)
  rw [hv_pk _ X j hjl (hsx _ (List.getElem_mem hjl)) _ (Nat.le_refl _), Nat.sub_self, Nat.pow_zero, Nat.div_one, hXv] at hpa
  have e : (((wd D.length : Nat) : Int) - 1 - ((0 : Nat) : Int)) = ((wd D.length : Nat) : Int) - 1 := by omega
  rw [e] at hpa
  unfold pk
  rw [impl_PackAt.eq, implPackOk_eq _ _ _ _ (by rw [hwl]; unfold nw; omega) ht.2.1, pOk_pk _ (by omega) X (by omega) hps, Option.bind_some, Bool.not_true, bif_false]
  simp only
  rw [wrapI (by omega) (by omega), withinN_eq, Option.bind_some, decide_eq_true (show (0 : Int) ≤ j by omega), decide_eq_true (show (j : Int) ≤ (X.length : Int) - 1 by omega), Bool.and_true, Bool.not_true, bif_false, impl_Packed_at.eq]
  simp only
  rw [wrapI (by omega) (by omega)]
  exact (congrArg (fun o => o.bind fun y3 => some y3) hpa).trans rfl
end
theorem isa_get (D : List Nat) (m : Nat) (hm : m < (srt D).length) : (ints (inv (srt D)))[(srt D)[m]]? = some (m : Int) := by
  have hs := srt_len' D
  have hx := (srt_mem D _).1 (List.getElem_mem hm)
  have h3 := inv_at (srt D) (srt D)[m] (by omega)
  have h4 : (srt D).idxOf (srt D)[m] = m := (idx_iff (srt_nodup D) hm _).1 rfl
  rw [h4] at h3
  rw [List.getElem?_map, h3]; rfl
theorem bif_okay {a b : Int} (h : a = b) : some (a == b) = some true := by rw [h, beq_self_eq_true]
theorem fmV_rate (D : List Nat) (r : Nat) : (fmV D r).2.1 = (r : Int) := rfl
section
variable (D : List Nat) (hD : D.length ≤ 300) (hb : ByteL D) (r : Nat) (h1 : 1 ≤ r) (h2 : r ≤ 64) (hread : impl_Fm_read (fmV D r) = some (ints D, true))
include hD hb hread
theorem lf_at (a : Nat) (ha : a < (srt D).length) : impl_FmLf (fmV D r) a = some ((lfV (bwt D) a : Nat) : Int) := by
  have hs := srt_len' D
  have hbl := bwt_len D
  rw [impl_FmLf.eq]
  show (impl_Fm_read (fmV D r)).bind _ = _
  rw [hread, Option.bind_some]
  simp only [Bool.not_true, bif_false]
  rw [withinN_eq, ints_len, Option.bind_some, decide_eq_true (show (0 : Int) ≤ a by omega), decide_eq_true (show (a : Int) ≤ D.length by omega), Bool.and_true, Bool.not_true, bif_false, implBwt_eq D hD hb, Option.bind_some, implLf_eq _ (by omega) (bwt_le D hb), Option.bind_some]
  simp only [at?_nat, Int.toNat_natCast, lfs_at (bwt D) a (show a < (bwt D).length by omega), Option.bind_some]
theorem isa_at (m : Nat) (hm : m < (srt D).length) : impl_FmIsa (fmV D r) (((srt D)[m] : Nat) : Int) = some (m : Int) := by
  have hs := srt_len' D
  have hx := (srt_mem D _).1 (List.getElem_mem hm)
  have hg := isa_get D m hm
  rw [impl_FmIsa.eq]
  show (impl_Fm_read (fmV D r)).bind _ = _
  rw [hread, Option.bind_some]
  simp only [Bool.not_true, bif_false]
  rw [withinN_eq, ints_len, Option.bind_some, decide_eq_true (show (0 : Int) ≤ (((srt D)[m] : Nat) : Int) by omega), decide_eq_true (show (((srt D)[m] : Nat) : Int) ≤ D.length by omega), Bool.and_true, Bool.not_true, bif_false, implSuf_eq D hD hb, Option.bind_some,
    implInv_eq _ (by omega) (srt_nodup D) (fun x hx => by have := (srt_mem D x).1 hx; omega) (fun x hx => (srt_mem D x).2 (by omega)), Option.bind_some]
  rw [at?_nat, Int.toNat_natCast, hg, Option.bind_some, Option.bind_some]
include h1 h2
theorem walk_l1 (m : Nat) (hm : m < (srt D).length) : ∀ (d n a : Nat) (ha : a < (srt D).length), (srt D)[m] % r - n = d → n ≤ (srt D)[m] % r → (srt D)[a] + n = (srt D)[m] →
    laws_FnFmWalk_l1 m (((srt D)[m] : Nat) : Int) (((srt D)[m] % r : Nat) : Int) a n (fmV D r).1 (fmV D r).2.1 (fmV D r).2.2.1 (fmV D r).2.2.2.1 (fmV D r).2.2.2.2.1 (fmV D r).2.2.2.2.2.1 (fmV D r).2.2.2.2.2.2.1 (fmV D r).2.2.2.2.2.2.2.1 (fmV D r).2.2.2.2.2.2.2.2.1 (fmV D r).2.2.2.2.2.2.2.2.2.1 (fmV D r).2.2.2.2.2.2.2.2.2.2.1 (fmV D r).2.2.2.2.2.2.2.2.2.2.2.1 (fmV D r).2.2.2.2.2.2.2.2.2.2.2.2.1 (fmV D r).2.2.2.2.2.2.2.2.2.2.2.2.2.1 (fmV D r).2.2.2.2.2.2.2.2.2.2.2.2.2.2.1 (fmV D r).2.2.2.2.2.2.2.2.2.2.2.2.2.2.2 = some true := by
  have hs := srt_len' D
  have hx := (srt_mem D _).1 (List.getElem_mem hm)
  have hmod : (srt D)[m] % r < r := Nat.mod_lt _ (by omega)
  have hdm := Nat.div_add_mod (srt D)[m] r
  intro d
  induction d with
  | zero =>
    intro n a ha hd hn hS
    have hn2 : n = (srt D)[m] % r := by omega
    have hSa : (srt D)[a] = r * ((srt D)[m] / r) := by omega
    have hM : isM r (srt D)[a] = true := by unfold isM; rw [hSa, Nat.mul_mod_right]; rfl
    have hbit : impl_BitAt ((fmV D r).2.2.2.2.2.2.1, (fmV D r).2.2.2.2.2.2.2.1) a = some (bint (isM r (srt D)[a])) := mark_at D hD r a ha
    have hrk : impl_Rank ((fmV D r).2.2.2.2.2.2.1, (fmV D r).2.2.2.2.2.2.2.1) 1 a = _ := mark_rank D hD r a (by omega)
    have hpa : impl_PackAt ((fmV D r).2.2.2.2.2.2.2.2.1, (fmV D r).2.2.2.2.2.2.2.2.2.1, (fmV D r).2.2.2.2.2.2.2.2.2.2.1, (fmV D r).2.2.2.2.2.2.2.2.2.2.2.1) _ = _ := sa_at D hD r h1 a ha hM
    have hia := isa_at D hD hb r hread m hm
    rw [laws_FnFmWalk_l1.eq, bif_ndec (by omega), hrk, Option.bind_some, hpa, Option.bind_some]
    simp only [pair_eta]
    rw [hia, Option.bind_some, bif_eq rfl, bif_dec (by rw [fmV_rate]; omega), hbit, hM, Option.bind_some, bif_eq (show bint true = 1 from rfl)]
    have hq : (srt D)[a] / r = (srt D)[m] / r := by rw [hSa, Nat.mul_div_cancel_left _ (by omega)]
    have hq2 : (srt D)[m] / r ≤ 300 := Nat.le_trans (Nat.div_le_self _ _) (by omega)
    have hqr : (((srt D)[a] / r : Nat) : Int) * (fmV D r).2.1 = ((r * ((srt D)[m] / r) : Nat) : Int) := by
      rw [fmV_rate, hq, Nat.mul_comm, Int.natCast_mul]
    rw [hqr, wrapI (x := ((r * ((srt D)[m] / r) : Nat) : Int)) (by omega) (by omega), wrapI (by omega) (by omega)]
    rw [bif_okay (by omega)]
  | succ d ih =>
    intro n a ha hd hn hS
    have h0 : (srt D)[a] ≠ 0 := by
      have := Nat.mod_le (srt D)[m] r
      omega
    have hM : isM r (srt D)[a] = false := by
      unfold isM
      have e : (srt D)[a] = r * ((srt D)[m] / r) + ((srt D)[m] % r - n) := by omega
      rw [decide_eq_false]
      rw [e, Nat.mul_add_mod, Nat.mod_eq_of_lt (by omega)]
      omega
    have hbit : impl_BitAt ((fmV D r).2.2.2.2.2.2.1, (fmV D r).2.2.2.2.2.2.2.1) a = some (bint (isM r (srt D)[a])) := mark_at D hD r a ha
    obtain ⟨hl, hr⟩ := lf_row D a ha h0
    rw [laws_FnFmWalk_l1.eq, bif_dec (by omega), hbit, hM, Option.bind_some, bif_nne (show bint false = 0 from rfl)]
    simp only [pair_eta]
    rw [lf_at D hD hb r hread a ha, Option.bind_some, wrapS n (by omega)]
    exact ih (n + 1) _ hl (by omega) (by omega) (by omega)
end
theorem law_FnFmWalk (xs : List Int) (hx : goodA tab laws_FnFmWalk.as xs) : laws_FnFmWalk.fn xs = some true := by
  show laws_FnFmWalk xs = some true
  rw [laws_FnFmWalk.eq, bigD_eq, Option.bind_some]
  by_cases h : (xs.length : Int) > 1048576
  · rw [bif_dec h]
  rw [bif_ndec h]
  obtain ⟨c, e0, g0⟩ := open_ok xs (codeD_bytes hx h)
  obtain ⟨f, c1, e1, g1, hf⟩ := fm_ok g0 (by omega)
  obtain ⟨n, hn⟩ : ∃ n, n = (if (if f.1 > (0 : Int) then f.1 else (0 : Int)) < (40 : Int) then (if f.1 > (0 : Int) then f.1 else (0 : Int)) else (40 : Int)) := ⟨_, rfl⟩
  have hn2 : 0 ≤ n ∧ n ≤ 40 := by rw [hn]; split <;> split at * <;> omega
  obtain ⟨k, c2, e2, g2⟩ := place_ok g1 (by omega) n hn2.1 (by omega)
  have ed : spec_DrawFmHops xs = some (f, k) := by
    rw [spec_DrawFmHops.eq]
    simp only [e0, Option.bind_some, e1, ← hn, e2]
  obtain ⟨s, hp, w1, w2, w3, w4, w5⟩ := walk_vals f hf k
  rw [ed, Option.bind_some]
  simp only [w1, w2, w3, w4, Option.bind_some]
  rw [bif_nne rfl, bif_nne rfl]
  rcases w5 with hneg | ⟨D, r, m, hm, rfl, d1, d2, d3, d4, d5, rfl, rfl, rfl⟩
  · rw [bif_dec hneg, beq_self_eq_true, bif_true, beq_self_eq_true]
  · rw [bif_ndec (by omega), laws_FnFmWalk_l0.eq]
    exact walk_l1 D d1 d2 r d3 d4 d5 m hm _ 0 m hm rfl (by omega) rfl
end Go.Ev.W
