/- What the functions come to, in plain mathematics, part 2. -/
import Derived.Test.YtddhebliggkadaaGreatEvC
import Derived.Test.YtddhebliggkadaaGreatPq8
import Derived.Test.YtddhebliggkadaaGreatMmA
import Derived.Test.YtddhebliggkadaaGreatEvGrow
import Derived.Test.YtddhebliggkadaaGreatPq1
import Derived.Test.YtddhebliggkadaaGreatPq2
import Derived.Test.YtddhebliggkadaaGreatPq3
import Derived.Test.YtddhebliggkadaaGreatPq5
import Derived.Test.YtddhebliggkadaaGreatPq4
/- Checksums and frames: both functions. -/
set_option linter.unusedVariables false
set_option linter.unusedSimpArgs false
namespace Go.Ev.W
open Go.Ev

def crcS (c : Nat) : Nat := if c % 2 = 1 then c / 2 ^^^ 3988292384 else c / 2
def crcN : Nat → Nat → Nat
  | 0, c => c
  | k + 1, c => crcN k (crcS c)
def crcV (D : List Nat) (c : Nat) : Nat := D.foldl (fun c x => crcN 8 (c ^^^ x)) c
def crc (D : List Nat) : Nat := crcV D 4294967295 ^^^ 4294967295
theorem crcS_lt {c : Nat} (h : c < 4294967296) : crcS c < 4294967296 := by
  unfold crcS
  split
  · exact Nat.xor_lt_two_pow (n := 32) (by omega) (by omega)
  · omega
theorem crcN_lt : ∀ (k : Nat) {c : Nat}, c < 4294967296 → crcN k c < 4294967296
  | 0, _, h => h
  | k + 1, _, h => crcN_lt k (crcS_lt h)
theorem xor_lt32 {a b : Nat} (ha : a < 4294967296) (hb : b < 4294967296) : a ^^^ b < 4294967296 := Nat.xor_lt_two_pow (n := 32) ha hb
theorem crcV_lt : ∀ (D : List Nat) (c : Nat), (∀ x ∈ D, x < 256) → c < 4294967296 → crcV D c < 4294967296
  | [], c, _, h => h
  | x :: D, c, hD, h => crcV_lt D _ (fun y hy => hD y (List.mem_cons_of_mem _ hy)) (crcN_lt 8 (xor_lt32 h (by have := hD x List.mem_cons_self; omega)))
theorem crc_lt (D : List Nat) (hD : ∀ x ∈ D, x < 256) : crc D < 4294967296 := xor_lt32 (crcV_lt D _ hD (by omega)) (by omega)
theorem wrap32 {z : Nat} (h : z < 4294967296) : IntKind.u32.wrap (z : Int) = z := IntWalk.u32_in z ⟨by omega, by omega⟩
theorem implCrc_l1 (D : List Nat) (n i : Int) : ∀ (d k c : Nat), 8 - k = d → k ≤ 8 → c < 4294967296 → impl_crc_l1 c (ints D) n i k = impl_crc_l0 (crcN d c : Nat) (ints D) n (IntKind.i64.wrap (i + 1))
  | 0, k, c, h1, h2, h3 => by
    rw [impl_crc_l1.eq, bif_ndec (by omega)]; rfl
  | d + 1, k, c, h1, h2, h3 => by
    have e1 : (c : Int).fdiv (2 ^ 1) = ((c / 2 : Nat) : Int) := fdiv_nat c 1
    have h6 := bv_and 32 c 1 (by omega) (by omega)
    rw [show ((1 : Nat) : Int) = 1 from rfl, Nat.and_one_is_mod] at h6
    have ih := implCrc_l1 D n i d (k + 1) (crcS c) (by omega) (by omega) (crcS_lt h3)
    rw [impl_crc_l1.eq, bif_dec (by omega), e1, h6, wrap32 (z := c % 2) (by omega), wrapS k (by omega)]
    have hx : IntKind.u32.wrap (((BitVec.ofInt 32 ((c / 2 : Nat) : Int)) ^^^ (BitVec.ofInt 32 (IntKind.u32.wrap (((c % 2 : Nat) : Int) * 3988292384)))).toNat : Int) = ((crcS c : Nat) : Int) := by
      unfold crcS
      rcases Nat.mod_two_eq_zero_or_one c with h | h
      · rw [h, if_neg (by omega), show (((0 : Nat) : Int) * 3988292384) = ((0 : Nat) : Int) by omega, wrap32 (z := 0) (by omega)]
        have h4 := bv_xor 32 (c / 2) 0 (by omega) (by omega)
        rw [h4, Nat.xor_zero, wrap32 (by omega)]
      · rw [h, if_pos rfl, show (((1 : Nat) : Int) * 3988292384) = ((3988292384 : Nat) : Int) by omega, wrap32 (z := 3988292384) (by omega)]
        have h4 := bv_xor 32 (c / 2) 3988292384 (by omega) (by omega)
        rw [h4, wrap32 (xor_lt32 (by omega) (by omega))]
    rw [hx]
    exact ih
theorem implCrc_l0 (D : List Nat) (hl : D.length ≤ 16000) (hD : ∀ x ∈ D, x < 256) : ∀ (d i c : Nat), D.length - i = d → i ≤ D.length → c < 4294967296 → impl_crc_l0 c (ints D) D.length i = some ((crcV (D.drop i) c ^^^ 4294967295 : Nat) : Int)
  | 0, i, c, h1, h2, h3 => by
    have h4 := bv_xor 32 c 4294967295 (by omega) (by omega)
    rw [show ((4294967295 : Nat) : Int) = 4294967295 from rfl] at h4
    have h5 := xor_lt32 (a := c) (b := 4294967295) (by omega) (by omega)
    rw [impl_crc_l0.eq, bif_ndec (by omega), h4, wrap32 h5, wrapIn (by omega), List.drop_eq_nil_of_le (by omega)]; rfl
  | d + 1, i, c, h1, h2, h3 => by
    have hi : i < D.length := by omega
    have hx := hD _ (List.getElem_mem hi)
    have h4 := bv_xor 32 c D[i] (by omega) (by omega)
    have h5 := xor_lt32 (a := c) (b := D[i]) (by omega) (by omega)
    rw [impl_crc_l0.eq, bif_dec (by omega), at?_ints _ _ hi, Option.bind_some, wrap32 (z := D[i]) (by omega), h4, wrap32 h5]
    have h6 := implCrc_l1 D D.length i 8 0 (c ^^^ D[i]) rfl (by omega) h5
    refine h6.trans ?_
    rw [wrapS i (by omega), implCrc_l0 D hl hD d (i + 1) _ (by omega) (by omega) (crcN_lt 8 h5), List.drop_eq_getElem_cons hi]; rfl
theorem implCrc_eq (D : List Nat) (hl : D.length ≤ 16000) (hD : ∀ x ∈ D, x < 256) : impl_crc (ints D) = some ((crc D : Nat) : Int) := by
  rw [impl_crc.eq, List.length_map]
  exact implCrc_l0 D hl hD _ 0 4294967295 rfl (by omega) (by omega)

/-! #### frames -/
def four (n : Nat) : List Nat := [n % 256, n / 256 % 256, n / 65536 % 256, n / 16777216 % 256]
theorem byte_wrap (n : Nat) : IntKind.u8.wrap (n : Int) = ((n % 256 : Nat) : Int) := by
  show (let m := (n : Int) % (2 ^ 8 : Int); if false && m ≥ (2 ^ 7 : Int) then m - 2 ^ 8 else m) = _
  simp
theorem implFour_step (n : Nat) (i : Nat) (hi : i < 4) (out : List Int) (ho : out.length ≤ 1000000) : impl_FrameOf_l0 n i out = impl_FrameOf_l0 n (i + 1 : Nat) (out ++ [((n / 2 ^ (8 * i) % 256 : Nat) : Int)]) := by
  have e : min (8 * i) 64 = 8 * i := by omega
  rw [impl_FrameOf_l0.eq, bif_dec (by omega), wrapI (x := 8 * (i : Int)) (by omega) (by omega), show (8 : Int) * (i : Int) = ((8 * i : Nat) : Int) by omega, bif_ndec (by omega), Int.toNat_natCast, e, fdiv_nat, byte_wrap, bif_dec (by simp only [List.length_cons, List.length_nil]; omega), wrapS i (by omega)]
theorem implFour_eq (n : Nat) (out : List Int) (ho : out.length ≤ 900000) : impl_FrameOf_l0 n 0 out = some (out ++ ints (four n)) := by
  have h0 := implFour_step n 0 (by omega) out (by omega)
  have h1 := implFour_step n 1 (by omega) (out ++ [((n / 2 ^ (8 * 0) % 256 : Nat) : Int)]) (by simp; omega)
  have h2 := implFour_step n 2 (by omega) (out ++ [((n / 2 ^ (8 * 0) % 256 : Nat) : Int)] ++ [((n / 2 ^ (8 * 1) % 256 : Nat) : Int)]) (by simp; omega)
  have h3 := implFour_step n 3 (by omega) (out ++ [((n / 2 ^ (8 * 0) % 256 : Nat) : Int)] ++ [((n / 2 ^ (8 * 1) % 256 : Nat) : Int)] ++ [((n / 2 ^ (8 * 2) % 256 : Nat) : Int)]) (by simp; omega)
  have e0 : ((0 : Nat) : Int) = 0 := rfl
  rw [e0] at h0
  refine (h0.trans (h1.trans (h2.trans h3))).trans ?_
  rw [impl_FrameOf_l0.eq, bif_ndec (by omega)]
  simp [four]
def frH (k : Nat) (B : List Nat) : List Nat := [90, k] ++ Var B.length ++ B
def frame (k : Nat) (B : List Nat) : List Nat := if B.length ≤ 8000 then frH k B ++ four (crc (frH k B)) else []
theorem frH_len (k : Nat) (B : List Nat) (h : B.length ≤ 8000) : (frH k B).length ≤ 8010 := by
  have := Var_len B.length
  unfold frH
  simp only [List.length_append, List.length_cons, List.length_nil]; omega
theorem frH_bytes (k : Nat) (B : List Nat) (hk : k < 256) (hB : ∀ x ∈ B, x < 256) : ∀ x ∈ frH k B, x < 256 := by
  intro x hx
  unfold frH at hx
  rcases List.mem_append.1 hx with hx | hx
  · rcases List.mem_append.1 hx with hx | hx
    · simp at hx; omega
    · exact Var_bytes _ x hx
  · exact hB x hx
theorem frame_len (k : Nat) (B : List Nat) : (frame k B).length ≤ 8020 := by
  unfold frame
  split
  · rename_i h
    have := frH_len k B h
    rw [List.length_append]; simp [four]; omega
  · simp
theorem frH_ints (k : Nat) (B : List Nat) (hk : k < 256) : (([(90 : Int), IntKind.u8.wrap k] : List Int) ++ ints (Var B.length)) ++ ints B = ints (frH k B) := by
  rw [wrapBn hk]
  unfold frH
  simp only [List.map_append]; rfl
theorem implFrame_eq (k : Nat) (B : List Nat) (hk : k < 256) (hB : ∀ x ∈ B, x < 256) : impl_FrameOf ((k : Int), ints B) = some (ints (frame k B)) := by
  have hv := Var_len B.length
  have e : impl_FrameOk ((k : Int), ints B) = some (decide (B.length ≤ 8000)) := by
    rw [impl_FrameOk.eq]
    try simp only
    rw [withinN_eq, decide_eq_true (show (0 : Int) ≤ k by omega), decide_eq_true (show (k : Int) ≤ 255 by omega), Option.bind_some, Bool.and_true, bif_true, List.length_map]
    congr 1
    rw [Bool.eq_iff_iff, decide_eq_true_eq, decide_eq_true_eq]; omega
  rw [impl_FrameOf.eq]
  try simp only
  rw [e, Option.bind_some]
  unfold frame
  by_cases h : B.length ≤ 8000
  · have hH := frH_len k B h
    have hb := frH_bytes k B hk hB
    have hl : (ints (frH k B)).length = (frH k B).length := List.length_map ..
    rw [decide_eq_true h, Bool.not_true, bif_false, if_pos h, List.length_map, implVarOf_eq, Option.bind_some, bif_dec (by simp only [List.length_cons, List.length_nil, List.length_map]; omega), bif_dec (by simp only [List.length_append, List.length_cons, List.length_nil, List.length_map]; omega), frH_ints k B hk, implCrc_eq _ (by omega) hb, Option.bind_some, implFour_eq _ _ (by omega)]
    simp only [List.map_append]
  · rw [decide_eq_false h, Bool.not_false, bif_true, if_neg h]; rfl
end Go.Ev.W

/- Joining byte slices. -/
set_option linter.unusedVariables false
set_option linter.unusedSimpArgs false
namespace Go.Ev.W
open Go.Ev

theorem grow_eq (n : Int) (h0 : 0 ≤ n) (h : n ≤ 140737488355328) : slices_Grow_byte_byte [] n = some [] := by
  unfold slices_Grow_byte_byte growF
  simp only [List.isEmpty_nil, Bool.true_and]
  rw [decide_eq_true h0, decide_eq_true (show n.toNat * 1 ≤ 140737488355328 by omega), decide_eq_true (show n.toNat ≤ 4611686018427387904 by omega)]
  rfl
theorem sum_take_le : ∀ (L : List Nat) (i : Nat), (L.take i).sum ≤ L.sum
  | [], i => by simp
  | x :: L, 0 => by simp
  | x :: L, i + 1 => by simp only [List.take_succ_cons, List.sum_cons]; have := sum_take_le L i; omega
theorem take_step {α : Type} (l : List α) (i : Nat) (h : i < l.length) : l.take (i + 1) = l.take i ++ [l[i]] := by
  rw [List.take_add_one, List.getElem?_eq_getElem h]; rfl
theorem concat_l1 (X : List (List Int)) (hn : X.length ≤ 1000000) (hs : (X.map List.length).sum ≤ 1000000000) : ∀ (d i : Nat), X.length - i = d → i ≤ X.length →
    slices_Concat_byte_byte_l1 X X.length i (X.take i).flatten = some X.flatten := by
  intro d
  induction d with
  | zero =>
    intro i h1 h2
    obtain rfl : i = X.length := by omega
    rw [slices_Concat_byte_byte_l1.eq, bif_ndec (by omega), List.take_length]
  | succ d ih =>
    intro i h1 h2
    rw [slices_Concat_byte_byte_l1.eq, bif_dec (by omega), at?_lt X i (by omega), Option.bind_some]
    have e : (X.take (i + 1)).flatten = (X.take i).flatten ++ X[i] := by rw [take_step _ _ (by omega), List.flatten_append, List.flatten_cons, List.flatten_nil, List.append_nil]
    have hb := sum_take_le (X.map List.length) (i + 1)
    rw [← List.map_take, ← List.length_flatten, e, List.length_append] at hb
    rw [bif_dec (by omega), ← e, wrapI (by omega) (by omega)]
    exact ih (i + 1) (by omega) (by omega)
theorem concat_l0 (X : List (List Int)) (hn : X.length ≤ 1000000) (hs : (X.map List.length).sum ≤ 1000000000) : ∀ (d i : Nat), X.length - i = d → i ≤ X.length →
    slices_Concat_byte_byte_l0 X ((((X.map List.length).take i).sum : Nat) : Int) X X.length i = some X.flatten := by
  intro d
  induction d with
  | zero =>
    intro i h1 h2
    obtain rfl : i = X.length := by omega
    rw [slices_Concat_byte_byte_l0.eq, bif_ndec (by omega)]
    have hb := sum_take_le (X.map List.length) X.length
    rw [grow_eq _ (by omega) (by omega), Option.bind_some]
    exact concat_l1 X hn hs _ 0 rfl (by omega)
  | succ d ih =>
    intro i h1 h2
    have hi : i < X.length := by omega
    rw [slices_Concat_byte_byte_l0.eq, bif_dec (by omega), at?_lt X i hi, Option.bind_some]
    have e : ((X.map List.length).take (i + 1)).sum = ((X.map List.length).take i).sum + X[i].length := by rw [take_step _ _ (by rw [List.length_map]; omega), List.sum_append, List.sum_cons, List.sum_nil, List.getElem_map, Nat.add_zero]
    have hb := sum_take_le (X.map List.length) (i + 1)
    rw [e] at hb
    rw [wrapI (by omega) (by omega), bif_ndec (by omega), wrapI (by omega) (by omega)]
    have := ih (i + 1) (by omega) (by omega)
    rw [e] at this
    exact this
theorem concat_eq (X : List (List Int)) (hn : X.length ≤ 1000000) (hs : (X.map List.length).sum ≤ 1000000000) : slices_Concat_byte_byte X = some X.flatten := by
  rw [slices_Concat_byte_byte.eq]
  exact concat_l0 X hn hs _ 0 rfl (by omega)
end Go.Ev.W

/- Packed numbers as bytes: both functions. -/
set_option linter.unusedVariables false
set_option linter.unusedSimpArgs false
namespace Go.Ev.W
open Go.Ev

def pB (w n b : Int) (W : List Nat) : List Nat := bif pOk w n b W then Var w ++ Var n ++ bb b W else []
theorem pB_len (w n b : Int) (W : List Nat) : (pB w n b W).length ≤ 1000 := by
  unfold pB
  cases h : pOk w n b W with
  | false => simp
  | true =>
    simp only [pOk, vOk, Bool.and_eq_true, decide_eq_true_eq] at h
    have := bb_len b W h.1.2.1.2
    have h1 := Var_len w
    have h2 := Var_len n
    rw [bif_true, List.length_append, List.length_append]; omega
theorem implPackBytes_eq (w n b : Int) (W : List Nat) (hl : W.length ≤ 1048576) (hx : ∀ x ∈ W, x < 2 ^ 64) : impl_PackBytes (w, n, b, ints W) = some (ints (pB w n b W)) := by
  rw [impl_PackBytes.eq]
  try simp only
  rw [implPackOk_eq w n b W hl hx, Option.bind_some]
  unfold pB
  cases h : pOk w n b W with
  | false => rfl
  | true =>
    have hv : vOk b W = true := by simp only [pOk, Bool.and_eq_true] at h; exact h.1.2
    have hv' := hv
    simp only [vOk, Bool.and_eq_true, decide_eq_true_eq] at hv'
    obtain ⟨⟨hb0, hb⟩, hw⟩ := hv'
    have h1 := Var_len w
    have h2 := Var_len n
    have h3 := bb_len b W hb
    obtain ⟨m, rfl⟩ : ∃ m : Nat, b = m := ⟨b.toNat, by omega⟩
    rw [Bool.not_true, bif_false, implVarOf_eq, Option.bind_some, implVarOf_eq, Option.bind_some, bitsBytes_eq m W (by omega) ((okW_iff m W hx).1 (by simpa using hw)), Option.bind_some, concat_eq _ (by simp) (by simp only [List.map_cons, List.map_nil, List.sum_cons, List.sum_nil, List.length_map]; omega), Option.bind_some, bif_true]
    simp only [List.map_append, List.flatten_cons, List.flatten_nil, List.append_nil, List.append_assoc]
end Go.Ev.W

/- Waves: the wave of a list is valid, and its numbers are the list. -/
set_option linter.unusedVariables false
set_option linter.unusedSimpArgs false
namespace Go.Ev.W
open Go.Ev

theorem vOk_tight {m : Nat} {W : List Nat} (hm : m ≤ 5000) (ht : tight m W) : vOk m W = true := by
  unfold vOk
  rw [Int.toNat_natCast, (okW_iff m W ht.2.1).2 ht, decide_eq_true (show (0 : Int) ≤ m by omega), decide_eq_true (show (m : Int) ≤ 5000 by omega)]; rfl
theorem vOk_wrds (bs : List Bool) (h : bs.length ≤ 5000) : vOk bs.length (wrds bs) = true := vOk_tight h (wrds_tight bs)
theorem lvb_wrds (bs : List Bool) (n : Nat) (h : bs.length = n) : lvb ((n : Int), wrds bs) = bs := by
  unfold lvb
  simp only [Int.toNat_natCast]
  rw [← h]
  exact bts_wrds bs
theorem wLv_ok : ∀ (d l : Nat) (X : List Nat), X.length ≤ 1000 → (((wLv d l X).2.zip (ints (wLv d l X).1)).all fun q => lOk X.length q.1 q.2) = true
  | 0, l, X, _ => rfl
  | d + 1, l, X, h => by
    have hl := lohi_len l X
    have ih := wLv_ok d (l + 1) (wlo l X ++ whi l X) (by rw [List.length_append]; omega)
    rw [List.length_append, hl] at ih
    rw [wLv]
    show (List.all (((X.length : Int), wrds (wbs l X)) :: _ |>.zip (((wlo l X).length : Int) :: ints _)) _) = true
    rw [List.zip_cons_cons, List.all_cons, ih, Bool.and_true]
    have hb := wbs_len l X
    have h1 := vOk_wrds (wbs l X) (by omega)
    rw [hb] at h1
    unfold lOk
    simp only [Bool.and_eq_true, decide_eq_true_eq]
    refine ⟨⟨h1, trivial⟩, ?_⟩
    rw [lvb_wrds _ _ hb, zer_wbs, hb, List.take_length]; rfl
theorem wLv_path : ∀ (d l : Nat) (X : List Nat), d + l = 9 → ∀ k (hk : k < X.length), (path ((wLv d l X).2.map lvb) (k, 0)).2 = X[k] % 2 ^ d
  | 0, l, X, _, k, hk => by
    show 0 = _
    rw [Nat.pow_zero, Nat.mod_one]
  | d + 1, l, X, h, k, hk => by
    have hl := lohi_len l X
    have hb := wbs_len l X
    have hnx := nxt_lt (wbs l X) k (by omega)
    rw [hb] at hnx
    have hlen : nxt (wbs l X) k < (wlo l X ++ whi l X).length := by rw [List.length_append, hl]; exact hnx
    have ih := wLv_path d (l + 1) (wlo l X ++ whi l X) (by omega) (nxt (wbs l X) k) hlen
    have hp := part_at l X k hk
    rw [List.getElem?_eq_getElem hlen] at hp
    injection hp with hp
    rw [wLv]
    show (path (lvb ((X.length : Int), wrds (wbs l X)) :: (wLv d (l + 1) (wlo l X ++ whi l X)).2.map lvb) (k, 0)).2 = _
    rw [lvb_wrds _ _ hb]
    show (path ((wLv d (l + 1) (wlo l X ++ whi l X)).2.map lvb) (nxt (wbs l X) k, 2 * 0 + ((wbs l X).getD k false).toNat)).2 = _
    have hgd : (wbs l X).getD k false = wbit l X[k] := by
      rw [List.getD_eq_getElem?_getD]; unfold wbs; rw [List.getElem?_map, List.getElem?_eq_getElem hk]; rfl
    rw [path_val, ih, hp, hgd, List.length_map, (wLv_len' d (l + 1) _).2, Nat.mul_zero, Nat.zero_add]
    have hw : (wbit l X[k]).toNat = X[k] / 2 ^ d % 2 := by
      unfold wbit
      rw [show 8 - l = d by omega]
      rcases Nat.mod_two_eq_zero_or_one (X[k] / 2 ^ d) with h2 | h2 <;> rw [h2] <;> rfl
    rw [hw, Nat.mod_pow_succ, Nat.mul_comm, Nat.add_comm]
theorem wave_back (X : List Nat) (hX : X.length ≤ 1000) (hx : ∀ x ∈ X, x ≤ 511) : wOk X.length (ints (wLv 9 0 X).1) (wLv 9 0 X).2 = true ∧ wList X.length (wLv 9 0 X).2 = X := by
  have hl := wLv_len' 9 0 X
  constructor
  · unfold wOk
    rw [wLv_ok 9 0 X hX, decide_eq_true (show (0 : Int) ≤ X.length by omega), decide_eq_true (show (X.length : Int) ≤ 1000 by omega), decide_eq_true (show (ints (wLv 9 0 X).1).length = 9 by rw [List.length_map]; exact hl.1), decide_eq_true hl.2]; rfl
  · rw [wList_eq]
    refine List.ext_getElem (by rw [List.length_map, List.length_range]) fun k h1 h2 => ?_
    have := hx _ (List.getElem_mem h2)
    rw [List.getElem_map, List.getElem_range, wLv_path 9 0 X rfl k h2, Nat.mod_eq_of_lt (by omega)]
end Go.Ev.W

/- An index as bytes: both functions. -/
set_option linter.unusedVariables false
set_option linter.unusedSimpArgs false
namespace Go.Ev.W
open Go.Ev

theorem pOk_pk (w : Nat) (hw : w ≤ 32) (X : List Nat) (hl : X.length ≤ 5000) (h : X.length * w ≤ 5000) : pOk w X.length ((X.length * w : Nat) : Int) (wrds (dgs w X)) = true := by
  have h1 := vOk_wrds (dgs w X) (by rw [dgs_len]; omega)
  rw [dgs_len] at h1
  unfold pOk
  rw [h1, decide_eq_true (show (0 : Int) ≤ w by omega), decide_eq_true (show (w : Int) ≤ 32 by omega), decide_eq_true (show (0 : Int) ≤ (X.length : Int) by omega), decide_eq_true (show (X.length : Int) ≤ 5000 by omega), decide_eq_true (by rw [Nat.mul_comm]; simp)]; rfl
/-- The bytes of packed numbers. -/
def pkB (w : Nat) (X : List Nat) : List Nat := pB w X.length ((X.length * w : Nat) : Int) (wrds (dgs w X))
theorem implPk_eq (w : Nat) (X : List Nat) (hl : X.length * w ≤ 5000) : impl_PackBytes (pk w X) = some (ints (pkB w X)) :=
  implPackBytes_eq _ _ _ _ (by rw [wrds_length, dgs_len]; unfold nw; omega) (wrds_tight _).2.1
def mkBy (r : Nat) (S : List Nat) : List Nat := bb (mkB r S).length (wrds (mkB r S))
def fmEnds (D : List Nat) (r : Nat) : List Nat := mkBy r (srt D) ++ pkB (wd D.length) (saL r (srt D)) ++ pkB (wd D.length) (isaL r D.length (srt D))
def fmBody (r : Nat) (L : List (Int × List Nat)) (E : List Nat) : List Nat := Var r ++ (L.map fun p => bb p.1 p.2).flatten ++ E
theorem bys_bytes (l : List Bool) : ∀ x ∈ bys l, x < 256 := by
  intro x hx
  unfold bys at hx
  obtain ⟨m, _, rfl⟩ := List.mem_map.1 hx
  exact byt_lt l m
theorem pB_bytes (w n b : Int) (W : List Nat) : ∀ x ∈ pB w n b W, x < 256 := by
  intro x hx
  unfold pB at hx
  cases h : pOk w n b W with
  | false => rw [h] at hx; cases hx
  | true =>
    rw [h, bif_true] at hx
    rcases List.mem_append.1 hx with hx | hx
    · rcases List.mem_append.1 hx with hx | hx
      · exact Var_bytes _ x hx
      · exact Var_bytes _ x hx
    · exact bb_bytes _ _ x hx
theorem lv_bytes (L : List (Int × List Nat)) : ∀ x ∈ (L.map fun p => bb p.1 p.2).flatten, x < 256 := by
  intro x hx
  obtain ⟨l, hl, h2⟩ := List.mem_flatten.1 hx
  obtain ⟨p, _, rfl⟩ := List.mem_map.1 hl
  exact bb_bytes _ _ x h2
theorem fmEnds_bytes (D : List Nat) (r : Nat) : ∀ x ∈ fmEnds D r, x < 256 := by
  intro x hx
  unfold fmEnds at hx
  rcases List.mem_append.1 hx with hx | hx
  · rcases List.mem_append.1 hx with hx | hx
    · exact bb_bytes _ _ x hx
    · exact pB_bytes _ _ _ _ x hx
  · exact pB_bytes _ _ _ _ x hx
theorem fmBody_bytes (r : Nat) (L : List (Int × List Nat)) (E : List Nat) (hE : ∀ x ∈ E, x < 256) : ∀ x ∈ fmBody r L E, x < 256 := by
  intro x hx
  unfold fmBody at hx
  rcases List.mem_append.1 hx with hx | hx
  · rcases List.mem_append.1 hx with hx | hx
    · exact Var_bytes _ x hx
    · exact lv_bytes L x hx
  · exact hE x hx
theorem fmEnds_len (D : List Nat) (r : Nat) (hl : D.length ≤ 300) : (fmEnds D r).length ≤ 2700 := by
  have hs := srt_len' D
  have h1 := bb_len ((mkB r (srt D)).length : Int) (wrds (mkB r (srt D))) (by rw [mkB_len]; omega)
  have h2 := pB_len (wd D.length : Nat) (saL r (srt D)).length (((saL r (srt D)).length * wd D.length : Nat) : Int) (wrds (dgs (wd D.length) (saL r (srt D))))
  have h3 := pB_len (wd D.length : Nat) (isaL r D.length (srt D)).length (((isaL r D.length (srt D)).length * wd D.length : Nat) : Int) (wrds (dgs (wd D.length) (isaL r D.length (srt D))))
  unfold fmEnds mkBy pkB
  simp only [List.length_append]; omega
theorem ints_app3 (a b c : List Nat) : (ints a ++ ints b) ++ ints c = ints (a ++ b ++ c) := by simp only [List.map_append]
theorem fmB_len (r : Nat) (n : Int) (Z : List Int) (L : List (Int × List Nat)) (h : wOk n Z L = true) : ((L.map fun p => bb p.1 p.2).flatten).length ≤ 6300 := by
  obtain ⟨_, _, _, h4, h5⟩ := wOk_at h
  have := wB_parts L fun p hp => (h5 p hp).1
  omega
end Go.Ev.W

/- The index of a text is valid. -/
set_option linter.unusedVariables false
set_option linter.unusedSimpArgs false
namespace Go.Ev.W
open Go.Ev

theorem wLv_words64 (X : List Nat) : ∀ (d l : Nat) (Y : List Nat), ∀ p ∈ (wLv d l Y).2, ∀ x ∈ p.2, x < 2 ^ 64
  | 0, l, Y, p, h, _, _ => by cases h
  | d + 1, l, Y, p, h, x, hx => by
    rw [wLv] at h
    rcases List.mem_cons.1 h with rfl | h
    · exact (wrds_tight (wbs l Y)).2.1 x hx
    · exact wLv_words64 X d (l + 1) _ p h x hx
theorem fmV_ok (D : List Nat) (h1 : D.length ≤ 300) (h2 : ∀ x ∈ D, x < 256) (r : Nat) (h3 : 1 ≤ r) (h4 : r ≤ 64) (hb : bT (bwt D) = (ints D, true)) : FmOkV (fmV D r) D ∧ FmW (fmV D r) D := by
  have hl := bwt_len D
  have hle := bwt_le D h2
  have e : (fmV D r).2.1 = (r : Int) := rfl
  refine ⟨⟨h1, h2, by rw [e]; omega, by rw [e]; omega, by rw [e, Int.toNat_natCast]⟩, ⟨(wLv 9 0 (bwt D)).2, rfl, fun p hp => ?_, wLv_words64 [] 9 0 (bwt D), ?_⟩, hb⟩
  · rw [wLv_words 9 0 (bwt D) p hp]; unfold nw; omega
  · exact (wave_back (bwt D) (by omega) fun x hx => by have := hle x hx; omega).1
theorem fmV_words (D : List Nat) (r : Nat) : ∀ p ∈ (fmV D r).2.2.2.2.1, ∀ x ∈ p.2, 0 ≤ x ∧ x < ((2 ^ 64 : Nat) : Int) := by
  intro p hp x hx
  have hp' : p ∈ LI (wLv 9 0 (bwt D)).2 := hp
  obtain ⟨q, hq, rfl⟩ := List.mem_map.1 hp'
  obtain ⟨y, hy, rfl⟩ := List.mem_map.1 hx
  have := wLv_words64 [] 9 0 (bwt D) q hq y hy
  omega
theorem fmText_round (D : List Nat) (h1 : D.length ≤ 300) (h2 : ∀ x ∈ D, x < 256) (r : Nat) (h3 : 1 ≤ r) (h4 : r ≤ 64) (hb : bT (bwt D) = (ints D, true)) : spec_l09Text (fmV D r) = some (ints D, true) := by
  have hl := bwt_len D
  have hle := bwt_le D h2
  have hwb := wave_back (bwt D) (by omega) fun x hx => by have := hle x hx; omega
  have hlist := specWaveList_eq ((bwt D).length : Int) (ints (wLv 9 0 (bwt D)).1) (wLv 9 0 (bwt D)).2 (fun p hp => by rw [wLv_words 9 0 (bwt D) p hp]; unfold nw; omega) (wLv_words64 [] 9 0 (bwt D))
  rw [hwb.1, Int.toNat_natCast, hwb.2, bif_true] at hlist
  have hsm := fmV_small D h1 r
  rw [spec_l09Text.eq, specRate_eq]
  show (some (decide ((1 : Int) ≤ (r : Int)) && decide ((r : Int) ≤ 64))).bind _ = _
  rw [decide_eq_true (show (1 : Int) ≤ r by omega), decide_eq_true (show (r : Int) ≤ 64 by omega), Option.bind_some]
  have e3 : (fmV D r).2.2.1 = ((bwt D).length : Int) := rfl
  rw [Bool.and_true, Bool.not_true, bif_false, e3, bif_ndec (by omega), spec_l09Text_l0.eq]
  show ((spec_WaveList (((bwt D).length : Int), ints (wLv 9 0 (bwt D)).1, LI (wLv 9 0 (bwt D)).2)).bind _) = _
  rw [hlist, Option.bind_some, specBwtText_eq _ (by omega) hle, hb, Option.bind_some, Bool.not_true, bif_false]
  have hfs := specFm_eq D h1 h2 r (by omega) h4
  have e2 : (fmV D r).2.1 = (r : Int) := rfl
  simp only [e2, hfs, Option.bind_some, bne_self_eq_false, bif_false]
  rw [same_eq _ _ (by have := hsm.c; omega), l03Same_eq _ _ _ _ (by have := hsm.m; omega), l09Packs_eq _ _ _ _ _ _ _ _ (by have := hsm.s; omega), l09Packs_eq _ _ _ _ _ _ _ _ (by have := hsm.i; omega)]
  simp only [Option.bind_some, decide_true, Bool.not_true, bif_false]
end Go.Ev.W

/- Drawn inputs: rows of bits, packed numbers, texts, wavelet matrices: there is always something, within bounds. -/
set_option linter.unusedVariables false
set_option linter.unusedSimpArgs false
namespace Go.Ev.W
open Go.Ev

theorem pick2 (x : Int) (h0 : 0 ≤ x) (h1 : x < 2 ∨ x = 0) : ∃ b : Bool, x = bint b := by
  rcases Int.lt_or_le x 1 with h | h
  · exact ⟨false, by show x = 0; omega⟩
  · exact ⟨true, by show x = 1; omega⟩
theorem bool_ok (b : Bool) : spec_l01Bool b = some (bint b) := by rw [spec_l01Bool.eq]; cases b <;> rfl
theorem bints_snoc (bs : List Bool) (b : Bool) : bints bs ++ [bint b] = bints (bs ++ [b]) := by rw [← bints_app]; rfl
theorem row_l1 : ∀ (d k : Nat) (c : Cur) (bs : List Bool), CurOk k c → k + d + 1 < 100000000000 → bs.length + d = 5001 → ∃ bs' c', spec_l01Cur_row_l1 c.1 c.2.1 c.2.2 (bints bs) = some (bints bs', c') ∧ CurOk (k + d + 1) c' ∧ bs'.length ≤ 5001 := by
  intro d
  induction d with
  | zero =>
    intro k c bs h hk hl
    obtain ⟨x, c1, e1, g1, a1, b1⟩ := pick_ok h (by omega) 2
    rw [spec_l01Cur_row_l1.eq]
    simp only [pair_eta, e1, Option.bind_some]
    rw [bints_len, wrapI (x := 5000 + x) (by omega) (by omega), bif_ndec (by omega)]
    exact ⟨bs, c1, rfl, g1.mono (by omega), by omega⟩
  | succ d ih =>
    intro k c bs h hk hl
    obtain ⟨x, c1, e1, g1, a1, b1⟩ := pick_ok h (by omega) 2
    rw [spec_l01Cur_row_l1.eq]
    simp only [pair_eta, e1, Option.bind_some]
    rw [bints_len, wrapI (x := 5000 + x) (by omega) (by omega)]
    by_cases hlt : (bs.length : Int) < 5000 + x
    · have e2 : ((bs.length : Int).tmod 3).tdiv 2 = ((bs.length % 3 / 2 : Nat) : Int) := rfl
      obtain ⟨b, hb⟩ : ∃ b : Bool, IntKind.i64.wrap (((bs.length : Int).tmod 3).tdiv 2) = bint b := by
        rw [e2, wrapIn (by omega)]
        exact pick2 _ (by omega) (.inl (by omega))
      rw [bif_dec hlt, hb, bif_dec (by simp only [List.length_cons, List.length_nil]; omega), bints_snoc]
      obtain ⟨bs', c', e3, g3, h3⟩ := ih (k + 1) c1 (bs ++ [b]) g1 (by omega) (by simp only [List.length_append, List.length_cons, List.length_nil]; omega)
      exact ⟨bs', c', e3, g3.mono (by omega), h3⟩
    · rw [bif_ndec hlt]
      exact ⟨bs, c1, rfl, g1.mono (by omega), by omega⟩
theorem row_l0 (lean : Int) : ∀ (m k : Nat) (c : Cur) (bs : List Bool), CurOk k c → k + 2 * m + 5003 < 100000000000 → bs.length + m ≤ 5001 → ∃ bs' c', spec_l01Cur_row_l0 lean m c.1 c.2.1 c.2.2 (bints bs) = some (bints bs', c') ∧ CurOk (k + 2 * m + 5003) c' ∧ bs'.length ≤ 5001 := by
  intro m
  induction m with
  | zero =>
    intro k c bs h hk hl
    obtain ⟨x, c1, e1, g1⟩ := once_ok h (by omega) 60
    rw [spec_l01Cur_row_l0.eq, bif_ndec (by omega)]
    simp only [pair_eta, e1, Option.bind_some]
    cases x with
    | false => exact ⟨bs, c1, rfl, g1.mono (by omega), by omega⟩
    | true =>
      rw [bif_true]
      obtain ⟨bs', c', e2, g2, h2⟩ := row_l1 (5001 - bs.length) (k + 1) c1 bs g1 (by omega) (by omega)
      exact ⟨bs', c', e2, g2.mono (by omega), h2⟩
  | succ m ih =>
    intro k c bs h hk hl
    obtain ⟨x, c1, e1, g1, a1, b1⟩ := pick_ok h (by omega) 2
    rw [spec_l01Cur_row_l0.eq, bif_dec (by omega)]
    simp only [pair_eta, e1, Option.bind_some]
    rw [wrapI (x := ((m + 1 : Nat) : Int) - 1) (by omega) (by omega), show ((m + 1 : Nat) : Int) - 1 = m by omega]
    by_cases h0 : lean = 0
    · rw [bif_eq h0]
      obtain ⟨y, c2, e2, g2⟩ := once_ok g1 (by omega) 9
      simp only [e2, Option.bind_some, bool_ok]
      rw [bif_dec (by rw [bints_len]; simp only [List.length_cons, List.length_nil]; omega), bints_snoc]
      obtain ⟨bs', c', e3, g3, h3⟩ := ih (k + 2) c2 (bs ++ [y]) g2 (by omega) (by simp only [List.length_append, List.length_cons, List.length_nil]; omega)
      exact ⟨bs', c', e3, g3.mono (by omega), h3⟩
    · rw [bif_neq h0]
      obtain ⟨b, rfl⟩ := pick2 x a1 b1
      rw [bif_dec (by rw [bints_len]; simp only [List.length_cons, List.length_nil]; omega), bints_snoc]
      obtain ⟨bs', c', e3, g3, h3⟩ := ih (k + 1) c1 (bs ++ [b]) g1 (by omega) (by simp only [List.length_append, List.length_cons, List.length_nil]; omega)
      exact ⟨bs', c', e3, g3.mono (by omega), h3⟩
theorem row_ok {k : Nat} {c : Cur} (h : CurOk k c) (hk : k < 10000000000) : ∃ bs c', spec_l01Cur_row c = some (bints bs, c') ∧ CurOk (k + 10000) c' ∧ bs.length ≤ 5001 := by
  obtain ⟨x1, c1, e1, g1, a1, b1⟩ := pick_ok h (by omega) 4
  obtain ⟨x2, c2, e2, g2, a2, b2⟩ := pick_ok g1 (by omega) 3
  obtain ⟨y, y1, y2, y3⟩ := pick_list ([5, 40, 140] : List Int) x2 a2 (by simp; omega)
  obtain ⟨x3, c3, e3, g3, a3, b3⟩ := pick_ok g2 (by omega) y
  rw [spec_l01Cur_row.eq]
  simp only [pair_eta, e1, e2, Option.bind_some, y1, y2, e3]
  have hy : y ≤ 140 := by simp only [List.mem_cons, List.not_mem_nil, or_false] at y3; omega
  obtain ⟨m, rfl⟩ : ∃ m : Nat, x3 = m := ⟨x3.toNat, by omega⟩
  obtain ⟨bs', c', e4, g4, h4⟩ := row_l0 x1 m (k + 3) c3 [] g3 (by omega) (by simp; omega)
  exact ⟨bs', c', e4, g4.mono (by omega), h4⟩
theorem bitsOf_ok (bs : List Bool) : ∃ (n : Int) (W : List Nat) (b : Bool), spec_BitsOf (bints bs) = some ((n, ints W), b) ∧ W.length ≤ 79 ∧ ∀ x ∈ W, x < 2 ^ 64 := by
  by_cases h : bs.length ≤ 5000
  · exact ⟨_, _, true, specBitsOf_eq bs h, by rw [wrds_length]; unfold nw; omega, (wrds_tight bs).2.1⟩
  · refine ⟨0, [], false, ?_, by simp, by simp⟩
    rw [spec_BitsOf.eq, bints_len, bif_dec (by omega)]; rfl
theorem badBits_ok {k : Nat} {c : Cur} (h : CurOk k c) (hk : k < 10000000000) : ∃ (n : Int) (W : List Nat) (c' : Cur), spec_l01Cur_badBits c = some ((n, ints W), c') ∧ CurOk (k + 10010) c' ∧ W.length ≤ 80 ∧ ∀ x ∈ W, x < 2 ^ 64 := by
  obtain ⟨bs, c1, e1, g1, h1⟩ := row_ok h hk
  obtain ⟨n, W, b, e2, l2, w2⟩ := bitsOf_ok bs
  obtain ⟨x, c2, e3, g3, a3, b3⟩ := pick_ok g1 (by omega) 14
  rw [spec_l01Cur_badBits.eq]
  simp only [pair_eta, e1, Option.bind_some, e2, e3]
  by_cases q0 : x = 0
  · rw [bif_eq q0]
    obtain ⟨z, c4, e4, g4, _⟩ := raw_ok g3 (by omega)
    obtain ⟨z5, c5, e5, g5, a5, b5⟩ := pick_ok g4 (by omega) 3
    obtain ⟨y, y1, y2, y3⟩ := pick_list ([z, IntKind.i64.wrap (n + 1), IntKind.i64.wrap (n - 1)] : List Int) z5 a5 (by simp; omega)
    simp only [e4, Option.bind_some, e5, y1, y2]
    exact ⟨y, W, c5, rfl, g5.mono (by omega), by omega, w2⟩
  rw [bif_neq q0]
  by_cases q1 : x = 1
  · rw [bif_eq q1]
    obtain ⟨z5, c5, e5, g5, a5, b5⟩ := pick_ok g3 (by omega) 2
    obtain ⟨m, rfl⟩ : ∃ m : Nat, z5 = m := ⟨z5.toNat, by omega⟩
    simp only [e5, Option.bind_some]
    rw [wrapUn (by omega), bif_dec (by rw [ints_len]; simp only [List.length_cons, List.length_nil]; omega), ints_snoc]
    refine ⟨n, W ++ [m], c5, rfl, g5.mono (by omega), by simp; omega, fun x hx => ?_⟩
    rcases List.mem_append.1 hx with hx | hx
    · exact w2 x hx
    · rw [List.mem_singleton.1 hx]; omega
  rw [bif_neq q1]
  by_cases q2 : x = 2
  · rw [bif_eq q2, ints_len]
    by_cases hW : (W.length : Int) > 0
    · rw [bif_dec hW]
      obtain ⟨z5, c5, e5, g5, a5, b5⟩ := pick_ok g3 (by omega) W.length
      obtain ⟨m, rfl⟩ : ∃ m : Nat, z5 = m := ⟨z5.toNat, by omega⟩
      have hm : m < W.length := by omega
      simp only [e5, Option.bind_some]
      rw [at?_ints W m hm, Option.bind_some, Int.toNat_natCast, getElem?_ints W m hm, Option.bind_some]
      refine ⟨n, W.set m 18446744073709551615, c5, ?_, g5.mono (by omega), by rw [List.length_set]; omega, fun x hx => ?_⟩
      · rw [← ints_set]; rfl
      · rcases List.mem_or_eq_of_mem_set hx with hx | hx
        · exact w2 x hx
        · rw [hx]; decide
    · rw [bif_ndec hW]
      exact ⟨n, W, c2, rfl, g3.mono (by omega), by omega, w2⟩
  · rw [bif_neq q2]
    exact ⟨n, W, c2, rfl, g3.mono (by omega), by omega, w2⟩
theorem nums_ok {k : Nat} {c : Cur} (h : CurOk k c) (hk : k < 100000000000) (n : Nat) (hn : n ≤ 1000) (top : Int) : ∃ (X : List Nat) (c' : Cur), spec_l01Cur_numbers c n top = some (ints X, c') ∧ CurOk (k + 3000001) c' ∧ X.length ≤ n ∧ ∀ x ∈ X, (x : Int) < max 1 top := by
  obtain ⟨l, c', e, g, h1, h2⟩ := numbers_ok h hk n top (by omega) (by omega)
  obtain ⟨X, rfl, hX⟩ := ints_of l (max 1 top).toNat fun x hx => ⟨(h2 x hx).1, by have := (h2 x hx).2; omega⟩
  rw [ints_len] at h1
  exact ⟨X, c', e, g, by omega, fun x hx => by have := hX x hx; omega⟩
theorem badPacked_ok {k : Nat} {c : Cur} (h : CurOk k c) (hk : k < 1000000000) : ∃ (w n b : Int) (W : List Nat) (c' : Cur), spec_l01Cur_badPacked c = some ((w, n, b, ints W), c') ∧ CurOk (k + 4000000) c' ∧ W.length ≤ 80 ∧ ∀ x ∈ W, x < 2 ^ 64 := by
  obtain ⟨x1, c1, e1, g1, a1, b1⟩ := pick_ok h (by omega) 5
  obtain ⟨y, y1, y2, y3⟩ := pick_list ([0, 1, 3, 7, 24] : List Int) x1 a1 (by simp; omega)
  obtain ⟨w, rfl⟩ : ∃ w : Nat, y = w := ⟨y.toNat, by simp only [List.mem_cons, List.not_mem_nil, or_false] at y3; omega⟩
  have hw : w ≤ 24 := by simp only [List.mem_cons, List.not_mem_nil, or_false] at y3; omega
  have hp := Nat.two_pow_pos w
  obtain ⟨X, c2, e2, g2, l2, x2⟩ := nums_ok g1 (by omega) 20 (by omega) ((2 ^ w : Nat) : Int)
  have hXw : X.length * w ≤ 20 * 24 := Nat.mul_le_mul l2 hw
  have hpk := specPack_eq w (by omega) X (by omega) (by omega) (fun x hx => by have := x2 x hx; omega)
  have hpl := pk_words w X
  obtain ⟨x3, c3, e3, g3, a3, b3⟩ := pick_ok g2 (by omega) 12
  have hpw : ∀ x ∈ wrds (dgs w X), x < 2 ^ 64 := (wrds_tight _).2.1
  have hwl : (wrds (dgs w X)).length ≤ 79 := by rw [wrds_length, dgs_len]; unfold nw; omega
  rw [spec_l01Cur_badPacked.eq]
  have e2' : spec_l01Cur_numbers c1 20 ((2 ^ w : Nat) : Int) = some (ints X, c2) := e2
  simp only [pair_eta, e1, Option.bind_some, y1, y2, l02Pow_eq w (by omega), e2', hpk, e3]
  unfold pk
  by_cases q0 : x3 = 0
  · rw [bif_eq q0]
    obtain ⟨z, c4, e4, g4, _⟩ := raw_ok g3 (by omega)
    obtain ⟨z5, c5, e5, g5, a5, b5⟩ := pick_ok g4 (by omega) 3
    obtain ⟨y, y1, y2, y3⟩ := pick_list ([z, 32, 33] : List Int) z5 a5 (by simp; omega)
    simp only [e4, Option.bind_some, e5, y1, y2]
    exact ⟨_, _, _, _, c5, rfl, g5.mono (by omega), by omega, hpw⟩
  rw [bif_neq q0]
  by_cases q1 : x3 = 1
  · rw [bif_eq q1]
    obtain ⟨z, c4, e4, g4, _⟩ := raw_ok g3 (by omega)
    obtain ⟨z5, c5, e5, g5, a5, b5⟩ := pick_ok g4 (by omega) 2
    obtain ⟨y, y1, y2, y3⟩ := pick_list ([z, IntKind.i64.wrap ((X.length : Int) + 1)] : List Int) z5 a5 (by simp; omega)
    simp only [e4, Option.bind_some, e5, y1, y2]
    exact ⟨_, _, _, _, c5, rfl, g5.mono (by omega), by omega, hpw⟩
  rw [bif_neq q1]
  by_cases q2 : x3 = 2
  · rw [bif_eq q2]
    obtain ⟨n, W, c5, e5, g5, l5, w5⟩ := badBits_ok g3 (by omega)
    simp only [e5, Option.bind_some]
    exact ⟨_, _, _, _, c5, rfl, g5.mono (by omega), by omega, w5⟩
  · rw [bif_neq q2]
    exact ⟨_, _, _, _, c3, rfl, g3.mono (by omega), by omega, hpw⟩
end Go.Ev.W

/- What the laws' own helpers come to: marks in waves. -/
set_option linter.unusedVariables false
set_option linter.unusedSimpArgs false
namespace Go.Ev.W
open Go.Ev

def mBS : Int → List Nat → Lv
  | _, [] => []
  | k, m :: ms => (k, markF IntKind.u64.wrap (k + 1) m) :: mBS (k + 1 + m) ms
def mBE : Int → List Nat → Int
  | k, [] => k
  | k, m :: ms => mBE (k + 1 + m) ms
theorem mBE_eq : ∀ (k : Int) (ms : List Nat), mBE k ms = k + (ms.length + ms.sum : Nat)
  | k, [] => by simp [mBE]
  | k, m :: ms => by rw [mBE, mBE_eq, List.length_cons, List.sum_cons]; omega
theorem mBS_length : ∀ (k : Int) (ms : List Nat), (mBS k ms).length = ms.length
  | k, [] => rfl
  | k, m :: ms => by rw [mBS, List.length_cons, List.length_cons, mBS_length]
abbrev lens (L : Lv) : List Nat := L.map fun p => p.2.length
theorem Small.sum {Z : List Int} {L : Lv} (h : Small Z L) : Z.length + (lens L).length + (lens L).sum ≤ 1048576 := by
  have := h.s
  rw [List.length_map]; exact this
theorem Small.lw {Z : List Int} {L : Lv} (h : Small Z L) : ∀ m ∈ lens L, m ≤ 1048576 := by
  intro m hm
  obtain ⟨p, hp, rfl⟩ := List.mem_map.1 hm
  exact h.w p hp
end Go.Ev.W

/- Indexes: the laws' helpers. -/
set_option linter.unusedVariables false
set_option linter.unusedSimpArgs false
namespace Go.Ev.W
open Go.Ev

/-- What the guard gives. -/
structure GdFm (f : FmT) : Prop where
  sm : SmFm f 1048576
  wv : Small f.2.2.2.1 f.2.2.2.2.1
theorem guard2 {α : Type} (k n : Int) (a b : Option α) : (bif decide (k < 0) then a else bif decide (k > n) then a else b) = bif decide (0 ≤ k) && decide (k ≤ n) then b else a := by
  by_cases h1 : k < 0
  · rw [bif_dec h1, decide_eq_false (show ¬ 0 ≤ k by omega)]; rfl
  · rw [bif_ndec h1, decide_eq_true (show 0 ≤ k by omega), Bool.true_and]
    by_cases h2 : k > n
    · rw [bif_dec h2, decide_eq_false (show ¬ k ≤ n by omega)]; rfl
    · rw [bif_ndec h2, decide_eq_true (show k ≤ n by omega)]; rfl
theorem bif_not {α : Type} (c : Bool) (a b : α) : (bif !c then a else b) = bif c then b else a := by cases c <;> rfl
end Go.Ev.W

/- Where a word occurs: both functions. -/
set_option linter.unusedVariables false
set_option linter.unusedSimpArgs false
namespace Go.Ev.W
open Go.Ev

def bgn (X P : List Nat) : Bool := decide (X.take P.length = P)
theorem bgn_len {X P : List Nat} (h : bgn X P = true) : P.length ≤ X.length := by
  have h := of_decide_eq_true h
  rw [← h, List.length_take]; omega
theorem bgn_cmp : ∀ (X P : List Nat), bgn X P = true → ¬ cmpN X P < 0
  | [], [], _ => by show ¬ (0 : Int) < 0; omega
  | [], _ :: _, h => by have := bgn_len h; simp at this
  | _ :: _, [], _ => by show ¬ (1 : Int) < 0; omega
  | a :: X, b :: P, h => by
    have h1 := of_decide_eq_true h
    rw [List.length_cons, List.take_succ_cons] at h1
    injection h1 with h2 h3
    rw [cmpN, h2, if_neg (by omega), if_neg (by omega)]
    exact bgn_cmp X P (decide_eq_true h3)
theorem ints_takeN (X : List Nat) (n : Nat) : (ints X).take n = ints (X.take n) := (List.map_take).symm
theorem ints_dropN (X : List Nat) (n : Nat) : (ints X).drop n = ints (X.drop n) := (List.map_drop).symm
theorem drop_ints (D : List Nat) (a : Nat) : ((ints D).take D.length).drop a = ints (D.drop a) := by
  rw [ints_takeN, ints_dropN, List.take_of_length_le (Nat.le_refl _)]
theorem specBegins_eq (X P : List Nat) (hX : ByteL X) (hP : ByteL P) : spec_l05Begins (ints X) (ints P) = some (bgn X P) := by
  rw [spec_l05Begins.eq, ints_len, ints_len]
  by_cases h : P.length ≤ X.length
  · rw [bif_dec (by omega), bif_dec (by omega), Int.toNat_natCast, List.drop_zero, ints_takeN, strOf_eq _ _ (fun x hx => hX x (List.mem_of_mem_take hx)) hP]; rfl
  · rw [bif_ndec (by omega)]
    congr 1
    symm
    cases hb : bgn X P with
    | false => rfl
    | true => exact absurd (bgn_len hb) h
theorem prefix_eq (X P : List Nat) (hX : ByteL X) (hP : ByteL P) : bytes_HasPrefix (ints X) (ints P) = some (bgn X P) := by
  rw [bytes_HasPrefix.eq, ints_len, ints_len]
  by_cases h : P.length ≤ X.length
  · rw [bif_dec (by omega), bif_dec (by omega), Int.toNat_natCast, List.drop_zero, ints_takeN, bytes_Equal.eq, strOf_eq _ _ (fun x hx => hX x (List.mem_of_mem_take hx)) hP]; rfl
  · rw [bif_ndec (by omega)]
    congr 1
    symm
    cases hb : bgn X P with
    | false => rfl
    | true => exact absurd (bgn_len hb) h
theorem compare_eq (X P : List Nat) (hX : ByteL X) (hP : ByteL P) : bytes_Compare (ints X) (ints P) = some (cmpN X P) := by
  have e3 : bytealg_Compare (ints X) (ints P) = some (cmpN X P) := by
    unfold bytealg_Compare
    rw [show ((ints X).map fun x => x) = ints X from List.map_id _, show ((ints P).map fun x => x) = ints P from List.map_id _, cmpB_eq _ _ hX hP]
  rw [bytes_Compare.eq, e3]; rfl
def occ (D P : List Nat) (i : Nat) : List Nat := (List.range i).filter fun j => bgn (D.drop j) P
def low (D P : List Nat) (i : Nat) : Nat := ((List.range i).filter fun j => decide (cmpN (D.drop j) P < 0)).length
theorem rf_snoc (p : Nat → Bool) (i : Nat) : (List.range (i + 1)).filter p = (List.range i).filter p ++ (if p i then [i] else []) := by
  rw [List.range_succ, List.filter_append]
  cases h : p i <;> simp [h]
theorem occ_snoc (D P : List Nat) (i : Nat) : occ D P (i + 1) = occ D P i ++ (if bgn (D.drop i) P then [i] else []) := rf_snoc _ i
theorem low_snoc (D P : List Nat) (i : Nat) : low D P (i + 1) = low D P i + (if cmpN (D.drop i) P < 0 then 1 else 0) := by
  unfold low
  rw [rf_snoc, List.length_append]
  by_cases h : cmpN (D.drop i) P < 0
  · rw [decide_eq_true h, if_pos rfl, if_pos h]; rfl
  · rw [decide_eq_false h, if_neg h]; rfl
theorem occ_len (D P : List Nat) (i : Nat) : (occ D P i).length ≤ i := by
  unfold occ
  have := List.length_filter_le (fun j => bgn (D.drop j) P) (List.range i)
  rw [List.length_range] at this; exact this
theorem low_le (D P : List Nat) (i : Nat) : low D P i ≤ i := by
  unfold low
  have := List.length_filter_le (fun j => decide (cmpN (D.drop j) P < 0)) (List.range i)
  rw [List.length_range] at this; exact this
section
variable (D P : List Nat) (hl : D.length ≤ 300) (hD : ByteL D) (hP : ByteL P)
include hl hD hP
theorem specOcc_l0 : ∀ (d i : Nat), D.length + 1 - i = d → i ≤ D.length + 1 → spec_Occurs_l0 (ints D) (ints P) i (ints (occ D P i)) = some (ints (occ D P (D.length + 1)))
  | 0, i, h1, h2 => by
    obtain rfl : i = D.length + 1 := by omega
    rw [spec_Occurs_l0.eq, specTextOk_eq, decide_eq_true hl, Option.bind_some, bif_true, ints_len, bif_ndec (by omega)]
  | d + 1, i, h1, h2 => by
    have ho := occ_len D P i
    have ih := specOcc_l0 d (i + 1) (by omega) (by omega)
    rw [occ_snoc] at ih
    rw [spec_Occurs_l0.eq, specTextOk_eq, decide_eq_true hl, Option.bind_some, bif_true, ints_len, bif_dec (by omega), spec_Occurs_l1.eq, ints_len, bif_dec (by omega), Int.toNat_natCast, drop_ints, specBegins_eq _ _ (fun x hx => hD x (List.mem_of_mem_drop hx)) hP, Option.bind_some, wrapS i (by omega)]
    cases hb : bgn (D.drop i) P with
    | true =>
      rw [hb, if_pos rfl, ← ints_snoc] at ih
      rw [bif_true, bif_dec (by simp only [List.length_cons, List.length_nil, ints_len]; omega)]
      exact ih
    | false =>
      rw [hb, if_neg (by simp), List.append_nil] at ih
      rw [bif_false]
      exact ih
theorem specOcc_eq : spec_Occurs (ints D) (ints P) = some (ints (occ D P (D.length + 1))) := by
  rw [spec_Occurs.eq]
  exact specOcc_l0 D P hl hD hP _ 0 rfl (by omega)
theorem specRows_l0 (hPl : P.length ≤ 1048576) : ∀ (d i : Nat), D.length + 1 - i = d → i ≤ D.length + 1 → spec_RowsOf_l0 (ints D) (ints P) (low D P i : Nat) i = some (((low D P (D.length + 1) : Nat) : Int), ((low D P (D.length + 1) + (occ D P (D.length + 1)).length : Nat) : Int))
  | 0, i, h1, h2 => by
    obtain rfl : i = D.length + 1 := by omega
    have ho := occ_len D P (D.length + 1)
    have hw := low_le D P (D.length + 1)
    rw [spec_RowsOf_l0.eq, ints_len, bif_ndec (by omega), specOcc_eq D P hl hD hP, Option.bind_some, ints_len, wrapI (by omega) (by omega)]
    congr 2
  | d + 1, i, h1, h2 => by
    have hw := low_le D P i
    have ih := specRows_l0 hPl d (i + 1) (by omega) (by omega)
    rw [low_snoc] at ih
    rw [spec_RowsOf_l0.eq, ints_len, bif_dec (by omega), bif_dec (by omega), Int.toNat_natCast, drop_ints, l05Cmp_eq _ _ (by rw [List.length_drop]; omega) (by omega), Option.bind_some, wrapS i (by omega), wrapS (low D P i) (by omega)]
    by_cases hc : cmpN (D.drop i) P < 0
    · rw [if_pos hc] at ih
      rw [bif_dec hc]; exact ih
    · rw [if_neg hc, Nat.add_zero] at ih
      rw [bif_ndec hc]; exact ih
theorem specRows_eq (hPl : P.length ≤ 1048576) : spec_RowsOf (ints D) (ints P) = some (((low D P (D.length + 1) : Nat) : Int), ((low D P (D.length + 1) + (occ D P (D.length + 1)).length : Nat) : Int)) := by
  rw [spec_RowsOf.eq, specTextOk_eq, decide_eq_true hl, Option.bind_some, Bool.not_true, bif_false]
  exact specRows_l0 D P hl hD hP hPl _ 0 rfl (by omega)
theorem implRows_l0 : ∀ (d i : Nat), D.length + 1 - i = d → i ≤ D.length + 1 → impl_rowsOf_l0 (ints D) (ints P) (low D P i : Nat) ((occ D P i).length : Nat) (D.length + 1 : Nat) i = some (((low D P (D.length + 1) : Nat) : Int), ((low D P (D.length + 1) + (occ D P (D.length + 1)).length : Nat) : Int))
  | 0, i, h1, h2 => by
    obtain rfl : i = D.length + 1 := by omega
    have ho := occ_len D P (D.length + 1)
    have hw := low_le D P (D.length + 1)
    rw [impl_rowsOf_l0.eq, bif_ndec (by omega), wrapI (by omega) (by omega)]
    congr 2
  | d + 1, i, h1, h2 => by
    have hw := low_le D P i
    have ho := occ_len D P i
    have hDd : ByteL (D.drop i) := fun x hx => hD x (List.mem_of_mem_drop hx)
    have ih := implRows_l0 d (i + 1) (by omega) (by omega)
    rw [low_snoc, occ_snoc] at ih
    rw [impl_rowsOf_l0.eq, bif_dec (by omega), ints_len, bif_dec (by omega), Int.toNat_natCast, drop_ints, prefix_eq _ _ hDd hP, Option.bind_some, wrapS i (by omega), wrapS (low D P i) (by omega), wrapS (occ D P i).length (by omega)]
    cases hb : bgn (D.drop i) P with
    | true =>
      have hc := bgn_cmp _ _ hb
      rw [hb, if_pos rfl, if_neg hc, Nat.add_zero, List.length_append] at ih
      rw [bif_true]; exact ih
    | false =>
      rw [hb, if_neg (show ¬ (false = true) by simp), List.append_nil] at ih
      rw [bif_false, bif_dec (by omega), compare_eq _ _ hDd hP, Option.bind_some]
      by_cases hc : cmpN (D.drop i) P < 0
      · rw [if_pos hc] at ih
        rw [bif_dec hc]; exact ih
      · rw [if_neg hc, Nat.add_zero] at ih
        rw [bif_ndec hc]; exact ih
theorem implRows_eq : impl_rowsOf (ints D) (ints P) = some (((low D P (D.length + 1) : Nat) : Int), ((low D P (D.length + 1) + (occ D P (D.length + 1)).length : Nat) : Int)) := by
  rw [impl_rowsOf.eq, ints_len, wrapS _ (by omega)]
  exact implRows_l0 D P hl hD hP _ 0 rfl (by omega)
end
end Go.Ev.W

/- Drawn inputs: texts, wavelet matrices, indexes: there is always something, within bounds. -/
set_option linter.unusedVariables false
set_option linter.unusedSimpArgs false
namespace Go.Ev.W
open Go.Ev

theorem ba_at (A : ByteArray) (x : Int) (h0 : 0 ≤ x) (h1 : x < A.size) : ∃ u : UInt8, at? A.data.toList x = some u := by
  have hs : A.data.toList.length = A.size := Array.length_toList
  obtain ⟨y, y1, _, _⟩ := pick_list A.data.toList x h0 (by rw [hs]; exact h1)
  exact ⟨y, y1⟩
theorem ByteL.app {A B : List Nat} (h : ByteL A) (g : ByteL B) : ByteL (A ++ B) := fun x hx => (List.mem_append.1 hx).elim (h x) (g x)
theorem textOf_l0 (n : Nat) (hn : n ≤ 1000) (A : ByteArray) (hA : 1 ≤ A.size) : ∀ (m k : Nat) (c : Cur) (D : List Nat), CurOk k c → k + 3 * m < 100000000000 → D.length + 6 * m ≤ 1000000 → ByteL D →
    ∃ (D' : List Nat) (c' : Cur), spec_l01Cur_textOf_l0 n A m c.1 c.2.1 c.2.2 (ints D) = some (ints D', c') ∧ CurOk (k + 3 * m) c' ∧ D'.length ≤ n ∧ ByteL D' := by
  intro m
  induction m with
  | zero =>
    intro k c D h hk hl hD
    rw [spec_l01Cur_textOf_l0.eq, bif_ndec (by omega), ints_len]
    by_cases hlt : (D.length : Int) > n
    · rw [bif_dec hlt, bif_dec (by omega), Int.toNat_natCast, Nat.sub_zero, ints_takeN]
      exact ⟨D.take n, c, rfl, h, by rw [List.length_take]; omega, fun x hx => hD x (List.mem_of_mem_take hx)⟩
    · rw [bif_ndec hlt]
      exact ⟨D, c, rfl, h, by omega, hD⟩
  | succ m ih =>
    intro k c D h hk hl hD
    have letter : ∀ (k' : Nat) (c' : Cur), CurOk k' c' → k' ≤ k + 1 → ∃ (D' : List Nat) (c2 : Cur), ((spec_l01Cur_pick (c'.1, c'.2.1, c'.2.2) (A.size : Int)).bind fun y6 =>
        (at? A.data.toList y6.1).bind fun y7 =>
        bif decide (((ints D).length + ([(y7.toNat : Int)] : List Int).length) * 1 ≤ 140737488355328) then
          spec_l01Cur_textOf_l0 n A m y6.2.1 y6.2.2.1 y6.2.2.2 (ints D ++ ([(y7.toNat : Int)] : List Int))
        else
          none) = some (ints D', c2) ∧ CurOk (k + 3 * (m + 1)) c2 ∧ D'.length ≤ n ∧ ByteL D' := by
      intro k' c' h' hk'
      obtain ⟨x, c1, e1, g1, a1, b1⟩ := pick_ok h' (by omega) (A.size : Int)
      obtain ⟨u, hu⟩ := ba_at A x a1 (by omega)
      have hu2 : u.toNat < 256 := u.toNat_lt
      simp only [pair_eta, e1, Option.bind_some, hu]
      rw [bif_dec (by rw [ints_len]; simp only [List.length_cons, List.length_nil]; omega), ints_snoc]
      obtain ⟨D', c2, e2, g2, l2, b2⟩ := ih (k' + 1) c1 (D ++ [u.toNat]) g1 (by omega) (by simp only [List.length_append, List.length_cons, List.length_nil]; omega) (hD.app fun x hx => by rw [List.mem_singleton.1 hx]; exact hu2)
      exact ⟨D', c2, e2, g2.mono (by omega), l2, b2⟩
    rw [spec_l01Cur_textOf_l0.eq, bif_dec (by omega)]
    have em : IntKind.i64.wrap (((m + 1 : Nat) : Int) - 1) = m := by rw [wrapI (by omega) (by omega)]; omega
    simp only [em]
    by_cases h3 : ((ints D).length : Int) > 3
    · rw [bif_dec h3]
      rw [ints_len] at h3
      obtain ⟨b, c1, e1, g1⟩ := once_ok h (by omega) 6
      simp only [pair_eta, e1, Option.bind_some]
      cases b with
      | false =>
        rw [bif_false]
        exact letter (k + 1) c1 g1 (by omega)
      | true =>
        rw [bif_true]
        obtain ⟨x2, c2, e2, g2, a2, b2⟩ := pick_ok g1 (by omega) ((ints D).length : Int)
        obtain ⟨x3, c3, e3, g3, a3, b3⟩ := pick_ok g2 (by omega) 6
        simp only [pair_eta, e2, e3, Option.bind_some]
        rw [ints_len] at b2
        rw [wrapI (x := x2 + 1) (by omega) (by omega), wrapI (x := x2 + 1 + x3) (by omega) (by omega)]
        obtain ⟨t, ht⟩ : ∃ t, t = (if x2 + 1 + x3 < ((ints D).length : Int) then x2 + 1 + x3 else ((ints D).length : Int)) := ⟨_, rfl⟩
        rw [← ht]
        have ht2 : x2 ≤ t ∧ t ≤ (D.length : Int) ∧ t ≤ x2 + 6 := by
          rw [ints_len] at ht
          rw [ht]; split <;> omega
        have hsub : ((ints D).drop x2.toNat).take (t.toNat - x2.toNat) = ints ((D.drop x2.toNat).take (t.toNat - x2.toNat)) := by rw [ints_dropN, ints_takeN]
        have hsl : ((D.drop x2.toNat).take (t.toNat - x2.toNat)).length ≤ 6 := by rw [List.length_take]; omega
        rw [ints_len, bif_dec (by omega), bif_dec (by omega), hsub, ints_len, bif_dec (by omega), show ints D ++ ints ((D.drop x2.toNat).take (t.toNat - x2.toNat)) = ints (D ++ (D.drop x2.toNat).take (t.toNat - x2.toNat)) from List.map_append.symm]
        obtain ⟨D', c4, e4, g4, l4, b4⟩ := ih (k + 3) c3 (D ++ (D.drop x2.toNat).take (t.toNat - x2.toNat)) g3 (by omega) (by rw [List.length_append]; omega) (hD.app fun x hx => hD x (List.mem_of_mem_drop (List.mem_of_mem_take hx)))
        exact ⟨D', c4, e4, g4.mono (by omega), l4, b4⟩
    · rw [bif_ndec h3]
      exact letter k c h (by omega)
theorem textOf_ok {k : Nat} {c : Cur} (h : CurOk k c) (hk : k < 10000000000) (n : Nat) (hn : n ≤ 100) : ∃ (D : List Nat) (c' : Cur), spec_l01Cur_textOf c n = some (ints D, c') ∧ CurOk (k + 1000) c' ∧ D.length ≤ n ∧ ByteL D := by
  obtain ⟨x1, c1, e1, g1, a1, b1⟩ := pick_ok h (by omega) 5
  obtain ⟨y, y1, y2, y3⟩ := pick_list ([(⟨#[97]⟩ : ByteArray), (⟨#[97, 98]⟩ : ByteArray), (⟨#[97, 98, 99]⟩ : ByteArray), (⟨#[97, 99, 103, 116]⟩ : ByteArray), (⟨#[0, 255]⟩ : ByteArray)] : List ByteArray) x1 a1 (by simp; omega)
  obtain ⟨x2, c2, e2, g2, a2, b2⟩ := size_ok g1 (by omega) n (by omega) (by omega)
  obtain ⟨m, rfl⟩ : ∃ m : Nat, x2 = m := ⟨x2.toNat, by omega⟩
  have hA : 1 ≤ y.size := by
    simp only [List.mem_cons, List.not_mem_nil, or_false] at y3
    rcases y3 with rfl | rfl | rfl | rfl | rfl <;> decide
  rw [spec_l01Cur_textOf.eq]
  simp only [pair_eta, e1, Option.bind_some, y1, y2, e2]
  obtain ⟨D, c3, e3, g3, l3, b3⟩ := textOf_l0 n (by omega) y hA m (k + 2) c2 [] g2 (by omega) (by simp; omega) (fun x hx => by cases hx)
  exact ⟨D, c3, e3, g3.mono (by omega), l3, b3⟩
theorem rate_ok {k : Nat} {c : Cur} (h : CurOk k c) (hk : k < 10000000000) : ∃ (r : Nat) (c' : Cur), spec_l01Cur_rate c = some ((r : Int), c') ∧ CurOk (k + 1) c' ∧ 1 ≤ r ∧ r ≤ 64 := by
  obtain ⟨x1, c1, e1, g1, a1, b1⟩ := pick_ok h (by omega) 5
  obtain ⟨y, y1, y2, y3⟩ := pick_list ([1, 2, 3, 8, 64] : List Int) x1 a1 (by simp; omega)
  have hy : 1 ≤ y ∧ y ≤ 64 := by simp only [List.mem_cons, List.not_mem_nil, or_false] at y3; omega
  obtain ⟨r, rfl⟩ : ∃ r : Nat, y = r := ⟨y.toNat, by omega⟩
  rw [spec_l01Cur_rate.eq]
  simp only [pair_eta, e1, Option.bind_some, y1, y2]
  exact ⟨r, c1, rfl, g1, by omega, by omega⟩
/-- Levels within bounds. -/
def LvIn (L : List (Int × List Nat)) : Prop := L.length ≤ 9 ∧ ∀ p ∈ L, p.2.length ≤ 80 ∧ ∀ x ∈ p.2, x < 2 ^ 64
theorem wave_l0 {k : Nat} {c : Cur} (h : CurOk k c) (hk : k < 1000000000) (v3 : Int) (v4 : List Int) (v5 : Lv) (X : List Nat) (hX : X.length ≤ 100) (hx : ∀ x ∈ X, x ≤ 511) :
    ∃ (n : Int) (Z : List Int) (L : List (Int × List Nat)) (c' : Cur), spec_l01Cur_wave_l0 c.1 c.2.1 c.2.2 v3 v4 v5 (ints X) = some ((n, Z, LI L), c') ∧ CurOk (k + 20000) c' ∧ Z.length ≤ 10 ∧ LvIn L := by
  have hlen := wLv_len 9 0 X
  have hZ : (ints (wLv 9 0 X).1).length = 9 := by rw [ints_len]; exact hlen.1
  have hLl : (LI (wLv 9 0 X).2).length = 9 := (List.length_map ..).trans hlen.2
  have hin : LvIn (wLv 9 0 X).2 := ⟨by omega, fun p hp => ⟨by rw [wLv_words 9 0 X p hp]; unfold nw; omega, wLv_words64 X 9 0 X p hp⟩⟩
  obtain ⟨x1, c1, e1, g1, a1, b1⟩ := pick_ok h (by omega) 14
  rw [spec_l01Cur_wave_l0.eq, specWaveOf_eq X (by omega) hx]
  simp only [pair_eta, e1, Option.bind_some]
  by_cases q0 : x1 = 0
  · rw [bif_eq q0]
    obtain ⟨x2, c2, e2, g2, _⟩ := pick_ok g1 (by omega) 3
    simp only [e2, Option.bind_some]
    exact ⟨_, _, _, c2, rfl, g2.mono (by omega), by omega, hin⟩
  rw [bif_neq q0]
  by_cases q1 : x1 = 1
  · rw [bif_eq q1]
    obtain ⟨x2, c2, e2, g2, a2, b2⟩ := pick_ok g1 (by omega) 9
    obtain ⟨x3, c3, e3, g3, _⟩ := raw_ok g2 (by omega)
    obtain ⟨y, y1, y2, y3⟩ := pick_list (ints (wLv 9 0 X).1) x2 a2 (by omega)
    simp only [e2, e3, Option.bind_some, y1, y2]
    exact ⟨_, _, _, c3, rfl, g3.mono (by omega), by rw [List.length_set]; omega, hin⟩
  rw [bif_neq q1]
  by_cases q2 : x1 = 2
  · rw [bif_eq q2]
    obtain ⟨x2, c2, e2, g2, a2, b2⟩ := pick_ok g1 (by omega) 9
    obtain ⟨n, W, c3, e3, g3, l3, w3⟩ := badBits_ok g2 (by omega)
    obtain ⟨y, y1, y2, y3⟩ := pick_list (LI (wLv 9 0 X).2) x2 a2 (by omega)
    simp only [e2, e3, Option.bind_some, y1, y2]
    refine ⟨(X.length : Int), ints (wLv 9 0 X).1, (wLv 9 0 X).2.set x2.toNat (n, W), c3, ?_, g3.mono (by omega), by omega, by rw [List.length_set]; omega, fun p hp => ?_⟩
    · have : (LI (wLv 9 0 X).2).set x2.toNat (n, ints W) = LI ((wLv 9 0 X).2.set x2.toNat (n, W)) := (List.map_set (f := fun p : Int × List Nat => (p.1, ints p.2)) (l := (wLv 9 0 X).2) (i := x2.toNat) (a := (n, W))).symm
      rw [this]
    · rcases List.mem_or_eq_of_mem_set hp with hp | hp
      · exact hin.2 p hp
      · rw [hp]; exact ⟨l3, w3⟩
  rw [bif_neq q2]
  by_cases q3 : x1 = 3
  · rw [bif_eq q3]
    obtain ⟨x2, c2, e2, g2, a2, b2⟩ := pick_ok g1 (by omega) 9
    simp only [e2, Option.bind_some]
    rw [bif_dec (by omega)]
    refine ⟨(X.length : Int), ints (wLv 9 0 X).1, (wLv 9 0 X).2.take (x2.toNat - 0), c2, ?_, g2.mono (by omega), by omega, by rw [List.length_take]; omega, fun p hp => hin.2 p (List.mem_of_mem_take hp)⟩
    have : (LI (wLv 9 0 X).2).take (x2.toNat - 0) = LI ((wLv 9 0 X).2.take (x2.toNat - 0)) := (List.map_take).symm
    rw [this]
  rw [bif_neq q3]
  by_cases q4 : x1 = 4
  · rw [bif_eq q4, hZ, bif_dec (by simp only [List.length_cons, List.length_nil]; omega)]
    exact ⟨_, _, _, c1, rfl, g1.mono (by omega), by rw [List.length_append, hZ]; simp, hin⟩
  · rw [bif_neq q4]
    exact ⟨_, _, _, c1, rfl, g1.mono (by omega), by omega, hin⟩
theorem wave_ok {k : Nat} {c : Cur} (h : CurOk k c) (hk : k < 100000000) : ∃ (n : Int) (Z : List Int) (L : List (Int × List Nat)) (c' : Cur), spec_l01Cur_wave c = some ((n, Z, LI L), c') ∧ CurOk (k + 4000000) c' ∧ Z.length ≤ 10 ∧ LvIn L := by
  obtain ⟨x1, c1, e1, g1, a1, b1⟩ := pick_ok h (by omega) 3
  obtain ⟨y, y1, y2, y3⟩ := pick_list ([3, 100, 512] : List Int) x1 a1 (by simp; omega)
  have hy : 1 ≤ y ∧ y ≤ 512 := by simp only [List.mem_cons, List.not_mem_nil, or_false] at y3; omega
  obtain ⟨X, c2, e2, g2, l2, x2⟩ := nums_ok g1 (by omega) 24 (by omega) y
  obtain ⟨b, c3, e3, g3⟩ := once_ok g2 (by omega) 3
  have e2' : spec_l01Cur_numbers c1 24 y = some (ints X, c2) := e2
  rw [spec_l01Cur_wave.eq]
  simp only [pair_eta, e1, Option.bind_some, y1, y2, e2', e3]
  cases b with
  | false =>
    rw [bif_false]
    obtain ⟨n, Z, L, c4, e4, g4, h4⟩ := wave_l0 g3 (by omega) 0 [] [] X (by omega) (fun x hx => by have := x2 x hx; omega)
    exact ⟨n, Z, L, c4, e4, g4.mono (by omega), h4⟩
  | true =>
    rw [bif_true]
    obtain ⟨D, c4, e4, g4, l4, b4⟩ := textOf_ok g3 (by omega) 24 (by omega)
    have e4' : spec_l01Cur_textOf c3 24 = some (ints D, c4) := e4
    simp only [e4', Option.bind_some]
    rw [specBwt_eq D (by omega) b4, Option.bind_some]
    obtain ⟨n, Z, L, c5, e5, g5, h5⟩ := wave_l0 g4 (by omega) 0 [] [] (bwt D) (by rw [bwt_len]; omega) (fun x hx => by have := bwt_le D b4 x hx; omega)
    exact ⟨n, Z, L, c5, e5, g5.mono (by omega), h5⟩
/-- An index within bounds. -/
def FmIn (f : FmT) : Prop := SmFm f 1048576 ∧ ∀ p ∈ f.2.2.2.2.1, ∀ x ∈ p.2, 0 ≤ x ∧ x < ((2 ^ 64 : Nat) : Int)
theorem LvIn.words {L : List (Int × List Nat)} (h : LvIn L) : (LI L).length ≤ 9 ∧ (∀ p ∈ LI L, p.2.length ≤ 80) ∧ ∀ p ∈ LI L, ∀ x ∈ p.2, 0 ≤ x ∧ x < ((2 ^ 64 : Nat) : Int) := by
  refine ⟨by rw [List.length_map]; exact h.1, fun p hp => ?_, fun p hp x hx => ?_⟩
  · obtain ⟨q, hq, rfl⟩ := List.mem_map.1 hp
    rw [ints_len]; exact (h.2 q hq).1
  · obtain ⟨q, hq, rfl⟩ := List.mem_map.1 hp
    obtain ⟨y, hy, rfl⟩ := List.mem_map.1 hx
    have := (h.2 q hq).2 y hy
    omega
theorem fm_ok {k : Nat} {c : Cur} (h : CurOk k c) (hk : k < 10000000) : ∃ (f : FmT) (c' : Cur), spec_l01Cur_fm c = some (f, c') ∧ CurOk (k + 5000000) c' ∧ FmIn f := by
  obtain ⟨D, c1, e1, g1, l1, b1⟩ := textOf_ok h (by omega) 24 (by omega)
  have e1' : spec_l01Cur_textOf c 24 = some (ints D, c1) := e1
  obtain ⟨r, c2, e2, g2, r1, r2⟩ := rate_ok g1 (by omega)
  have e3 := specFm_eq D (by omega) b1 r (by omega) r2
  obtain ⟨x, c4, e4, g4, a4, b4⟩ := pick_ok g2 (by omega) 16
  have hs := fmV_small D (by omega) r
  have hw := fmV_words D r
  have hC : (fmV D r).2.2.2.2.2.1.length = 258 := by show (ints _).length = _; rw [ints_len, List.length_map, List.length_range]
  obtain ⟨f, hf⟩ : ∃ f, f = fmV D r := ⟨_, rfl⟩
  rw [← hf] at e3 hs hw hC
  obtain ⟨z, l, w, cc, m, s, i⟩ := hs
  rw [spec_l01Cur_fm.eq]
  simp only [pair_eta, e1', Option.bind_some, e2, e3, e4]
  by_cases q0 : x = 0
  · rw [bif_eq q0]
    obtain ⟨x5, c5, e5, g5, _⟩ := pick_ok g4 (by omega) 3
    simp only [e5, Option.bind_some]
    exact ⟨_, c5, rfl, g5.mono (by omega), ⟨by simp only; omega, by simp only; omega, fun p hp => by have := w p hp; omega, by simp only; omega, by simp only; omega, by simp only; omega, by simp only; omega⟩, hw⟩
  rw [bif_neq q0]
  by_cases q1 : x = 1
  · rw [bif_eq q1]
    obtain ⟨x5, c5, e5, g5, _⟩ := raw_ok g4 (by omega)
    obtain ⟨x6, c6, e6, g6, a6, b6⟩ := pick_ok g5 (by omega) 4
    obtain ⟨y, y1, y2, y3⟩ := pick_list ([x5, 64, 65, 2] : List Int) x6 a6 (by simp; omega)
    simp only [e5, e6, Option.bind_some, y1, y2]
    exact ⟨_, c6, rfl, g6.mono (by omega), ⟨by simp only; omega, by simp only; omega, fun p hp => by have := w p hp; omega, by simp only; omega, by simp only; omega, by simp only; omega, by simp only; omega⟩, hw⟩
  rw [bif_neq q1]
  by_cases q2 : x = 2
  · rw [bif_eq q2]
    obtain ⟨n, Z, L, c5, e5, g5, hZ, hL⟩ := wave_ok g4 (by omega)
    obtain ⟨k1, k2, k3⟩ := hL.words
    simp only [e5, Option.bind_some]
    exact ⟨_, c5, rfl, g5.mono (by omega), ⟨by simp only; omega, by simp only; omega, fun p hp => by have := k2 p hp; omega, by simp only; omega, by simp only; omega, by simp only; omega, by simp only; omega⟩, k3⟩
  rw [bif_neq q2]
  by_cases q3 : x = 3
  · rw [bif_eq q3]
    obtain ⟨x5, c5, e5, g5, a5, b5⟩ := pick_ok g4 (by omega) 250
    obtain ⟨x6, c6, e6, g6, _⟩ := raw_ok g5 (by omega)
    obtain ⟨y, y1, y2, y3⟩ := pick_list f.2.2.2.2.2.1 x5 a5 (by omega)
    simp only [e5, e6, Option.bind_some, y1, y2]
    exact ⟨_, c6, rfl, g6.mono (by omega), ⟨by simp only; omega, by simp only; omega, fun p hp => by have := w p hp; omega, by simp only [List.length_set]; omega, by simp only; omega, by simp only; omega, by simp only; omega⟩, hw⟩
  rw [bif_neq q3]
  by_cases q4 : x = 4
  · rw [bif_eq q4]
    obtain ⟨n, W, c5, e5, g5, l5, _⟩ := badBits_ok g4 (by omega)
    simp only [e5, Option.bind_some]
    have hl : (ints W).length ≤ 80 := by rw [ints_len]; exact l5
    exact ⟨_, c5, rfl, g5.mono (by omega), ⟨by simp only; omega, by simp only; omega, fun p hp => by have := w p hp; omega, by simp only; omega, by simp only; omega, by simp only; omega, by simp only; omega⟩, hw⟩
  rw [bif_neq q4]
  by_cases q5 : x = 5
  · rw [bif_eq q5]
    obtain ⟨u, n, b, W, c5, e5, g5, l5, _⟩ := badPacked_ok g4 (by omega)
    simp only [e5, Option.bind_some]
    have hl : (ints W).length ≤ 80 := by rw [ints_len]; exact l5
    exact ⟨_, c5, rfl, g5.mono (by omega), ⟨by simp only; omega, by simp only; omega, fun p hp => by have := w p hp; omega, by simp only; omega, by simp only; omega, by simp only; omega, by simp only; omega⟩, hw⟩
  rw [bif_neq q5]
  by_cases q6 : x = 6
  · rw [bif_eq q6]
    exact ⟨_, c4, rfl, g4.mono (by omega), ⟨by simp only; omega, by simp only; omega, fun p hp => by have := w p hp; omega, by simp only; omega, by simp only; omega, by simp only; omega, by simp only; omega⟩, hw⟩
  · rw [bif_neq q6]
    exact ⟨_, c4, rfl, g4.mono (by omega), ⟨by omega, by omega, fun p hp => by have := w p hp; omega, by omega, by omega, by omega, by omega⟩, hw⟩
theorem place_ok {k : Nat} {c : Cur} (h : CurOk k c) (hk : k < 1000000000) (n : Int) (h0 : 0 ≤ n) (h1 : n ≤ 1000000) : ∃ (x : Int) (c' : Cur), spec_l01Cur_place c n = some (x, c') ∧ CurOk (k + 5) c' := by
  rw [spec_l01Cur_place.eq]
  obtain ⟨x1, c1, e1, g1, _⟩ := pick_ok h (by omega) (if IntKind.i64.wrap (n + (2 : Int)) > (1 : Int) then IntKind.i64.wrap (n + (2 : Int)) else (1 : Int))
  obtain ⟨x2, c2, e2, g2, _⟩ := raw_ok g1 (by omega)
  obtain ⟨x3, c3, e3, g3, _⟩ := pick_ok g2 (by omega) (if n > (1 : Int) then n else (1 : Int))
  obtain ⟨x4, c4, e4, g4, a4, b4⟩ := pick_ok g3 (by omega) 5
  obtain ⟨y, y1, y2, y3⟩ := pick_list ([x1, n, IntKind.i64.wrap (n - (1 : Int)), x2, x3] : List Int) x4 a4 (by simp; omega)
  simp only [pair_eta, e1, e2, e3, e4, Option.bind_some, y1, y2]
  exact ⟨y, c4, rfl, g4.mono (by omega)⟩
theorem pattern_ok {k : Nat} {c : Cur} (h : CurOk k c) (hk : k < 1000000000) (T : List Nat) (hT : T.length ≤ 1000) (hb : ByteL T) : ∃ (P : List Nat) (c' : Cur), spec_l01Cur_pattern c (ints T) = some (ints P, c') ∧ CurOk (k + 2000) c' ∧ P.length ≤ 20 ∧ ByteL P := by
  rw [spec_l01Cur_pattern.eq]
  have small : ∀ (k' : Nat) (c2 : Cur), CurOk k' c2 → k' ≤ k + 1 → ∃ (P : List Nat) (c' : Cur), ((spec_l01Cur_textOf c2 4).bind fun y5 => some (y5.1, y5.2)) = some (ints P, c') ∧ CurOk (k + 2000) c' ∧ P.length ≤ 20 ∧ ByteL P := by
    intro k' c2 h2 hk2
    obtain ⟨D, c3, e3, g3, l3, b3⟩ := textOf_ok h2 (by omega) 4 (by omega)
    have e3' : spec_l01Cur_textOf c2 4 = some (ints D, c3) := e3
    rw [e3']
    exact ⟨D, c3, rfl, g3.mono (by omega), by omega, b3⟩
  by_cases h0 : ((ints T).length : Int) > 0
  · rw [bif_dec h0]
    rw [ints_len] at h0
    obtain ⟨b, c1, e1, g1⟩ := once_ok h (by omega) 4
    rw [e1, Option.bind_some]
    cases b with
    | true =>
      rw [Bool.not_true, bif_false]
      exact small (k + 1) c1 g1 (by omega)
    | false =>
      rw [Bool.not_false, bif_true]
      obtain ⟨x2, c2, e2, g2, a2, b2⟩ := pick_ok g1 (by omega) (if ((ints T).length : Int) < (256 : Int) then ((ints T).length : Int) else (256 : Int))
      obtain ⟨x3, c3, e3, g3, a3, b3⟩ := pick_ok g2 (by omega) 6
      rw [e2, Option.bind_some, e3, Option.bind_some]
      simp only
      have hx2 : x2 < T.length := by
        rw [ints_len] at b2
        split at b2 <;> omega
      rw [wrapI (x := x2 + x3) (by omega) (by omega)]
      obtain ⟨t, ht⟩ : ∃ t, t = (if x2 + x3 < ((ints T).length : Int) then x2 + x3 else ((ints T).length : Int)) := ⟨_, rfl⟩
      rw [← ht]
      have ht2 : x2 ≤ t ∧ t ≤ (T.length : Int) ∧ t ≤ x2 + 6 := by
        rw [ints_len] at ht
        rw [ht]; split <;> omega
      have hsub : ((ints T).drop x2.toNat).take (t.toNat - x2.toNat) = ints ((T.drop x2.toNat).take (t.toNat - x2.toNat)) := by rw [ints_dropN, ints_takeN]
      have hsl : ((T.drop x2.toNat).take (t.toNat - x2.toNat)).length ≤ 6 := by rw [List.length_take]; omega
      have hbs : ByteL ((T.drop x2.toNat).take (t.toNat - x2.toNat)) := fun x hx => hb x (List.mem_of_mem_drop (List.mem_of_mem_take hx))
      obtain ⟨b4, c4, e4, g4⟩ := once_ok g3 (by omega) 6
      rw [ints_len, bif_dec (by omega), bif_dec (by omega), hsub, ints_len, bif_dec (by simp only [List.length_nil]; omega), List.nil_append]
      rw [e4, Option.bind_some]
      cases b4 with
      | true =>
        rw [bif_true, ints_len, bif_dec (by simp only [List.length_cons, List.length_nil]; omega)]
        exact ⟨(T.drop x2.toNat).take (t.toNat - x2.toNat) ++ [98], c4, by rw [← ints_snoc]; rfl, g4.mono (by omega), by simp only [List.length_append, List.length_cons, List.length_nil]; omega, hbs.app fun x hx => by rw [List.mem_singleton.1 hx]; omega⟩
      | false => exact ⟨_, c4, rfl, g4.mono (by omega), by omega, hbs⟩
  · rw [bif_ndec h0]
    exact small k c h (by omega)

theorem bigD_eq (xs : List Int) : laws_big xs = some (decide ((xs.length : Int) > 1048576)) := laws_big.eq xs
theorem codeD_bytes {xs : List Int} (h : AllP (α := Tup [CT.int .u8]) (allL (goodC 4) [CT.int .u8]) xs) (hl : ¬ (xs.length : Int) > 1048576) : Bytes xs := by
  refine ⟨by omega, fun x hx => ?_⟩
  have := h.2 x hx
  have : (Lit.int .u8 x).wf = true := this
  simp only [Lit.wf, Bool.and_eq_true, decide_eq_true_eq] at this
  exact this
end Go.Ev.W

/- The law of FmSplit: what stands ahead of a word. -/
set_option linter.unusedVariables false
set_option linter.unusedSimpArgs false
namespace Go.Ev.W
open Go.Ev

/-- How many ends of a text begin with a word. -/
def cntS (P : List Nat) : List Nat → Nat
  | [] => (bgn [] P).toNat
  | x :: X => (bgn (x :: X) P).toNat + cntS P X
def sumT (P D : List Nat) : Nat → Nat
  | 0 => 0
  | m + 1 => sumT P D m + cntS (m :: P) D
theorem occ_cnt (P : List Nat) : ∀ D : List Nat, (occ D P (D.length + 1)).length = cntS P D
  | [] => by
    show ((List.range 1).filter fun j => bgn (([] : List Nat).drop j) P).length = _
    rw [show List.range 1 = [0] from rfl, List.filter_cons, List.drop_zero, cntS]
    cases bgn [] P <;> rfl
  | x :: X => by
    have ih := occ_cnt P X
    unfold occ at ih ⊢
    rw [List.length_cons, List.range_succ_eq_map, List.filter_cons, List.drop_zero, cntS, List.filter_map, ← ih]
    have e : ((fun j => bgn (List.drop j (x :: X)) P) ∘ Nat.succ) = fun j => bgn (X.drop j) P := by
      funext j; rfl
    rw [e]
    cases bgn (x :: X) P
    · simp
    · simp; omega
theorem bgn_nilc (c : Nat) (P : List Nat) : bgn [] (c :: P) = false := by unfold bgn; simp
theorem bgn_cons (x c : Nat) (X P : List Nat) : bgn (x :: X) (c :: P) = (decide (x = c) && bgn X P) := by
  unfold bgn
  rw [List.length_cons, List.take_succ_cons, Bool.eq_iff_iff]
  simp
theorem sumT_nil (P : List Nat) : ∀ m, sumT P [] m = 0
  | 0 => rfl
  | m + 1 => by rw [sumT, sumT_nil P m, cntS, bgn_nilc]; rfl
theorem sumT_cons (P : List Nat) (x : Nat) (X : List Nat) : ∀ m, sumT P (x :: X) m = (decide (x < m) && bgn X P).toNat + sumT P X m
  | 0 => by simp [sumT]
  | m + 1 => by
    rw [sumT, sumT, sumT_cons P x X m, cntS, bgn_cons]
    by_cases h : x = m
    · rw [decide_eq_true h, decide_eq_false (show ¬ x < m by omega), decide_eq_true (show x < m + 1 by omega), Bool.true_and, Bool.false_and]
      show 0 + _ + _ = _
      omega
    · by_cases h2 : x < m
      · rw [decide_eq_false h, decide_eq_true h2, decide_eq_true (show x < m + 1 by omega), Bool.false_and, Bool.true_and]
        show _ + (0 + _) = _
        omega
      · rw [decide_eq_false h, decide_eq_false h2, decide_eq_false (show ¬ x < m + 1 by omega), Bool.false_and]
        show 0 + _ + (0 + _) = 0 + _
        omega
theorem toNat_le (b : Bool) : b.toNat ≤ 1 := by cases b <;> simp
theorem sumT_le (P : List Nat) : ∀ (D : List Nat) (m : Nat), sumT P D m ≤ D.length
  | [], m => by rw [sumT_nil]; exact Nat.le_refl _
  | x :: X, m => by
    rw [sumT_cons, List.length_cons]
    have h1 := sumT_le P X m
    have h2 := toNat_le (decide (x < m) && bgn X P)
    omega
theorem split_eq (P : List Nat) : ∀ D : List Nat, ByteL D → cntS P D = (bgn D P).toNat + sumT P D 256
  | [], _ => by rw [sumT_nil]; rfl
  | x :: X, h => by
    rw [cntS, split_eq P X (fun y hy => h y (List.mem_cons_of_mem _ hy)), sumT_cons, decide_eq_true (h x List.mem_cons_self), Bool.true_and]
theorem cnt_none (c : Nat) (P : List Nat) : ∀ D : List Nat, c ∉ D → cntS (c :: P) D = 0
  | [], _ => by rw [cntS, bgn_nilc]; rfl
  | x :: X, h => by
    rw [cntS, bgn_cons, cnt_none c P X (fun hc => h (List.mem_cons_of_mem _ hc)), decide_eq_false (fun e => h (by rw [e]; exact List.mem_cons_self))]; rfl

section
variable (f : FmT) (D P : List Nat) (hD : D.length ≤ 300) (hb : ByteL D) (hP : ByteL P) (hPl : P.length ≤ 1000)
variable (hrows : ∀ Q : List Nat, ByteL Q → impl_FmRows f (ints Q) = some (((low D Q (D.length + 1) : Nat) : Int), ((low D Q (D.length + 1) + (occ D Q (D.length + 1)).length : Nat) : Int)))
include hD hb hP hPl hrows
theorem split_l3 (lo hi n : Int) (c : Nat) (hc : c < 256) : ∀ (d i : Nat) (u : Bool), D.length - i = d → i ≤ D.length →
    laws_FnFmSplit_l3 lo hi n c u i f.1 f.2.1 f.2.2.1 f.2.2.2.1 f.2.2.2.2.1 f.2.2.2.2.2.1 f.2.2.2.2.2.2.1 f.2.2.2.2.2.2.2.1 f.2.2.2.2.2.2.2.2.1 f.2.2.2.2.2.2.2.2.2.1 f.2.2.2.2.2.2.2.2.2.2.1 f.2.2.2.2.2.2.2.2.2.2.2.1 f.2.2.2.2.2.2.2.2.2.2.2.2.1 f.2.2.2.2.2.2.2.2.2.2.2.2.2.1 f.2.2.2.2.2.2.2.2.2.2.2.2.2.2.1 f.2.2.2.2.2.2.2.2.2.2.2.2.2.2.2 (ints P) (ints D)
     = laws_FnFmSplit_l2 lo hi (if u || decide (c ∈ D.drop i) then IntKind.i64.wrap ((IntKind.i64.wrap (n + ((low D (c :: P) (D.length + 1) + cntS (c :: P) D : Nat) : Int))) - ((low D (c :: P) (D.length + 1) : Nat) : Int)) else n) ((c + 1 : Nat) : Int) f.1 f.2.1 f.2.2.1 f.2.2.2.1 f.2.2.2.2.1 f.2.2.2.2.2.1 f.2.2.2.2.2.2.1 f.2.2.2.2.2.2.2.1 f.2.2.2.2.2.2.2.2.1 f.2.2.2.2.2.2.2.2.2.1 f.2.2.2.2.2.2.2.2.2.2.1 f.2.2.2.2.2.2.2.2.2.2.2.1 f.2.2.2.2.2.2.2.2.2.2.2.2.1 f.2.2.2.2.2.2.2.2.2.2.2.2.2.1 f.2.2.2.2.2.2.2.2.2.2.2.2.2.2.1 f.2.2.2.2.2.2.2.2.2.2.2.2.2.2.2 (ints P) (ints D) := by
  intro d
  induction d with
  | zero =>
    intro i u hd hi
    obtain rfl : i = D.length := by omega
    rw [laws_FnFmSplit_l3.eq, ints_len, bif_ndec (by omega), List.drop_length, show decide (c ∈ ([] : List Nat)) = false by simp, Bool.or_false]
    cases u with
    | false => rw [bif_false, if_neg (by simp), wrapS c (by omega)]
    | true =>
      have e : [IntKind.u8.wrap ((c : Nat) : Int)] ++ ints P = ints (c :: P) := by rw [wrapBn hc]; rfl
      have hr := hrows (c :: P) (fun x hx => (List.mem_cons.1 hx).elim (fun h => h ▸ hc) (hP x))
      rw [occ_cnt] at hr
      rw [bif_true, if_pos rfl, bif_dec (by rw [ints_len]; simp only [List.length_cons, List.length_nil]; omega), e]
      simp only [pair_eta, hr, Option.bind_some]
      rw [wrapS c (by omega)]
  | succ d ih =>
    intro i u hd hi
    have h : i < D.length := by omega
    have hx := hb _ (List.getElem_mem h)
    rw [laws_FnFmSplit_l3.eq, ints_len, bif_dec (by omega), wrapS i (by omega), List.drop_eq_getElem_cons h]
    cases u with
    | true => rw [bif_true, ih (i + 1) true (by omega) (by omega), Bool.true_or, Bool.true_or]
    | false =>
      have e : (((D[i] : Nat) : Int) == ((c : Nat) : Int)) = decide (c = D[i]) := by
        rw [Bool.eq_iff_iff, beq_iff_eq, decide_eq_true_eq]; omega
      rw [bif_false, at?_ints D i h, Option.bind_some, Int.toNat_natCast, getElem?_ints D i h, Option.bind_some, wrapIn (by omega), e, ih (i + 1) _ (by omega) (by omega), Bool.false_or]
      have e2 : (decide (c = D[i]) || decide (c ∈ D.drop (i + 1))) = decide (c ∈ D[i] :: D.drop (i + 1)) := by
        rw [Bool.eq_iff_iff, Bool.or_eq_true, decide_eq_true_eq, decide_eq_true_eq, decide_eq_true_eq, List.mem_cons]
      rw [e2]
theorem split_l2 (lo : Nat) (hlo : lo ≤ 1000) (n0 : Nat) (hn0 : n0 ≤ 1) (N : Nat) (hN : N ≤ 1000) : ∀ (d c : Nat), 256 - c = d → c ≤ 256 →
    laws_FnFmSplit_l2 lo ((lo + N : Nat) : Int) ((n0 + sumT P D c : Nat) : Int) c f.1 f.2.1 f.2.2.1 f.2.2.2.1 f.2.2.2.2.1 f.2.2.2.2.2.1 f.2.2.2.2.2.2.1 f.2.2.2.2.2.2.2.1 f.2.2.2.2.2.2.2.2.1 f.2.2.2.2.2.2.2.2.2.1 f.2.2.2.2.2.2.2.2.2.2.1 f.2.2.2.2.2.2.2.2.2.2.2.1 f.2.2.2.2.2.2.2.2.2.2.2.2.1 f.2.2.2.2.2.2.2.2.2.2.2.2.2.1 f.2.2.2.2.2.2.2.2.2.2.2.2.2.2.1 f.2.2.2.2.2.2.2.2.2.2.2.2.2.2.2 (ints P) (ints D)
     = some (decide (n0 + sumT P D 256 = N)) := by
  intro d
  induction d with
  | zero =>
    intro c hd hc
    obtain rfl : c = 256 := by omega
    rw [laws_FnFmSplit_l2.eq, bif_ndec (by omega), wrapI (by omega) (by omega), beq_dec]
    congr 1
    exact decide_eq_decide.2 ⟨fun h => by omega, fun h => by omega⟩
  | succ d ih =>
    intro c hd hc
    have hlow := low_le D (c :: P) (D.length + 1)
    have h1 := sumT_le P D c
    have h2 := sumT_le P D (c + 1)
    have hs : sumT P D (c + 1) = sumT P D c + cntS (c :: P) D := rfl
    rw [laws_FnFmSplit_l2.eq, bif_dec (by omega)]
    refine (split_l3 f D P hD hb hP hPl hrows _ _ _ c (by omega) _ 0 false rfl (by omega)).trans ?_
    rw [Bool.false_or, List.drop_zero]
    have e : (if decide (c ∈ D) = true then IntKind.i64.wrap ((IntKind.i64.wrap (((n0 + sumT P D c : Nat) : Int) + ((low D (c :: P) (D.length + 1) + cntS (c :: P) D : Nat) : Int))) - ((low D (c :: P) (D.length + 1) : Nat) : Int)) else ((n0 + sumT P D c : Nat) : Int)) = ((n0 + sumT P D (c + 1) : Nat) : Int) := by
      by_cases h : c ∈ D
      · rw [if_pos (decide_eq_true h), wrapI (x := ((n0 + sumT P D c : Nat) : Int) + ((low D (c :: P) (D.length + 1) + cntS (c :: P) D : Nat) : Int)) (by omega) (by omega), wrapI (by omega) (by omega)]
        omega
      · rw [if_neg (by simpa using h), hs, cnt_none c P D h, Nat.add_zero]
    rw [e]
    exact ih (c + 1) (by omega) (by omega)
end
theorem law_FnFmSplit (xs : List Int) (hx : goodA tab laws_FnFmSplit.as xs) : laws_FnFmSplit.fn xs = some true := by
  show laws_FnFmSplit xs = some true
  rw [laws_FnFmSplit.eq, bigD_eq, Option.bind_some]
  by_cases h : (xs.length : Int) > 1048576
  · rw [bif_dec h]
  rw [bif_ndec h]
  obtain ⟨c, e0, g0⟩ := open_ok xs (codeD_bytes hx h)
  obtain ⟨f, c1, e1, g1, hsm, hw⟩ := fm_ok g0 (by omega)
  obtain ⟨v, D, t, h1, h2, h3⟩ := fmRead_eq f hsm hw
  have hT : ∃ T : List Nat, spec_FmText f = some (ints T) ∧ T.length ≤ 1000 ∧ ByteL T ∧ (v = true → T = D) := by
    rw [spec_FmText.eq]
    show ∃ T : List Nat, (spec_l09Text f).bind _ = _ ∧ _
    rw [h1]
    cases v with
    | false => exact ⟨[], rfl, by simp, (fun x hx => by cases hx), fun h => by cases h⟩
    | true =>
      obtain ⟨⟨d1, d2, _⟩, _⟩ := h3 rfl
      exact ⟨D, rfl, by omega, d2, fun _ => rfl⟩
  obtain ⟨T, eT, lT, bT', hTD⟩ := hT
  obtain ⟨P, c2, e2, g2, lP, bP⟩ := pattern_ok g1 (by omega) T lT bT'
  have ed : spec_DrawFmRows xs = some (f, ints P) := by
    rw [spec_DrawFmRows.eq]
    simp only [e0, Option.bind_some, e1, eT, e2]
  rw [ed, Option.bind_some]
  cases v with
  | false =>
    have r1 : impl_FmRows f (ints P) = some (-1, -1) := by rw [impl_FmRows.eq]; show (impl_Fm_read f).bind _ = _; rw [h2]; rfl
    have r2 : spec_FmRows f (ints P) = some (-1, -1) := by rw [spec_FmRows.eq]; show (spec_l09Text f).bind _ = _; rw [h1]; rfl
    simp only [r1, r2, Option.bind_some]
    rfl
  | true =>
    obtain ⟨⟨d1, d2, _⟩, _⟩ := h3 rfl
    have hr : ∀ Q : List Nat, ByteL Q → impl_FmRows f (ints Q) = some (((low D Q (D.length + 1) : Nat) : Int), ((low D Q (D.length + 1) + (occ D Q (D.length + 1)).length : Nat) : Int)) := by
      intro Q hQ
      rw [impl_FmRows.eq]
      show (impl_Fm_read f).bind _ = _
      rw [h2, Option.bind_some]
      simp only [bif_true, Bool.not_true, bif_false, implRows_eq D Q d1 d2 hQ, Option.bind_some]
    have r2 : spec_FmRows f (ints P) = some (((low D P (D.length + 1) : Nat) : Int), ((low D P (D.length + 1) + (occ D P (D.length + 1)).length : Nat) : Int)) := by
      rw [spec_FmRows.eq]
      show (spec_l09Text f).bind _ = _
      rw [h1, Option.bind_some]
      simp only [bif_true, Bool.not_true, bif_false, specRows_eq D P d1 d2 bP (by omega), Option.bind_some]
    rw [hTD rfl] at eT
    have hlow := low_le D P (D.length + 1)
    have hocc := occ_len D P (D.length + 1)
    simp only [hr P bP, r2, Option.bind_some]
    rw [bif_nne rfl, bif_nne rfl, bif_ndec (by omega)]
    have l1 : ∀ n0 : Nat, n0 ≤ 1 → n0 = (bgn D P).toNat → laws_FnFmSplit_l1 ((low D P (D.length + 1) : Nat) : Int) ((low D P (D.length + 1) + (occ D P (D.length + 1)).length : Nat) : Int) (n0 : Nat) f.1 f.2.1 f.2.2.1 f.2.2.2.1 f.2.2.2.2.1 f.2.2.2.2.2.1 f.2.2.2.2.2.2.1 f.2.2.2.2.2.2.2.1 f.2.2.2.2.2.2.2.2.1 f.2.2.2.2.2.2.2.2.2.1 f.2.2.2.2.2.2.2.2.2.2.1 f.2.2.2.2.2.2.2.2.2.2.2.1 f.2.2.2.2.2.2.2.2.2.2.2.2.1 f.2.2.2.2.2.2.2.2.2.2.2.2.2.1 f.2.2.2.2.2.2.2.2.2.2.2.2.2.2.1 f.2.2.2.2.2.2.2.2.2.2.2.2.2.2.2 (ints P) (ints D) = some true := by
      intro n0 hn0 hn1
      rw [laws_FnFmSplit_l1.eq]
      refine (split_l2 f D P d1 d2 bP (by omega) hr _ (by omega) n0 hn0 _ (by omega) _ 0 rfl (by omega)).trans ?_
      rw [decide_eq_true (by rw [occ_cnt, split_eq P D d2, hn1])]
    rw [laws_FnFmSplit_l0.eq]
    simp only [pair_eta, eT, Option.bind_some, ints_len]
    by_cases hle : (P.length : Int) ≤ (D.length : Int)
    · have e : ((ints D).drop 0).take ((P.length : Int).toNat - 0) = ints (D.take P.length) := by rw [List.drop_zero, Int.toNat_natCast, Nat.sub_zero, ints_takeN]
      rw [bif_dec hle, bif_dec (by omega), e, strOf_eq _ _ (fun x hx => d2 x (List.mem_of_mem_take hx)) bP]
      by_cases hbg : D.take P.length = P
      · rw [bif_dec hbg]
        exact l1 1 (by omega) (by unfold bgn; rw [decide_eq_true hbg]; rfl)
      · rw [bif_ndec hbg]
        exact l1 0 (by omega) (by unfold bgn; rw [decide_eq_false hbg]; rfl)
    · rw [bif_ndec hle]
      refine l1 0 (by omega) ?_
      cases hbg : bgn D P with
      | false => rfl
      | true => exact absurd (bgn_len hbg) (by omega)
end Go.Ev.W
