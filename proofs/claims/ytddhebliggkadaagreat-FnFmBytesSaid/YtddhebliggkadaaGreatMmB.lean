/- What the functions come to, in plain mathematics, part 2. -/
import Derived.Test.YtddhebliggkadaaGreatEvC
import Derived.Test.YtddhebliggkadaaGreatPq8
import Derived.Test.YtddhebliggkadaaGreatMmA
import Derived.Test.YtddhebliggkadaaGreatPq1
import Derived.Test.YtddhebliggkadaaGreatPq2
import Derived.Test.YtddhebliggkadaaGreatPq3
import Derived.Test.YtddhebliggkadaaGreatPq5
import Derived.Test.YtddhebliggkadaaGreatPq9
/- Packed numbers as bytes: both functions. -/
set_option linter.unusedVariables false
set_option linter.unusedSimpArgs false
namespace Go.Ev.W
open Go.Ev

def pB (w n b : Int) (W : List Nat) : List Nat := bif pOk w n b W then Var w ++ Var n ++ bb b W else []
theorem pB_len (w n b : Int) (W : List Nat) : (pB w n b W).length ≤ 1000 := by
  unfold pB
  cases h : pOk w n b W with
  | false => simp
  | true =>
    simp only [pOk, vOk, Bool.and_eq_true, decide_eq_true_eq] at h
    have := bb_len b W h.1.2.1.2
    have h1 := Var_len w
    have h2 := Var_len n
    rw [bif_true, List.length_append, List.length_append]; omega
theorem implPackBytes_eq (w n b : Int) (W : List Nat) (hl : W.length ≤ 1048576) (hx : ∀ x ∈ W, x < 2 ^ 64) : impl_PackBytes (w, n, b, ints W) = some (ints (pB w n b W)) := by
  rw [impl_PackBytes.eq]
  try simp only
  rw [implPackOk_eq w n b W hl hx, Option.bind_some]
  unfold pB
  cases h : pOk w n b W with
  | false => rfl
  | true =>
    have hv : vOk b W = true := by simp only [pOk, Bool.and_eq_true] at h; exact h.1.2
    have hv' := hv
    simp only [vOk, Bool.and_eq_true, decide_eq_true_eq] at hv'
    obtain ⟨⟨hb0, hb⟩, hw⟩ := hv'
    have h1 := Var_len w
    have h2 := Var_len n
    have h3 := bb_len b W hb
    obtain ⟨m, rfl⟩ : ∃ m : Nat, b = m := ⟨b.toNat, by omega⟩
    rw [Bool.not_true, bif_false, implVarOf_eq, Option.bind_some, implVarOf_eq, Option.bind_some, bitsBytes_eq m W (by omega) ((okW_iff m W hx).1 (by simpa using hw)), Option.bind_some, concat_eq _ (by simp) (by simp only [List.map_cons, List.map_nil, List.sum_cons, List.sum_nil, List.length_map]; omega), Option.bind_some, bif_true]
    simp only [List.map_append, List.flatten_cons, List.flatten_nil, List.append_nil, List.append_assoc]
end Go.Ev.W

/- Waves: the wave of a list is valid, and its numbers are the list. -/
set_option linter.unusedVariables false
set_option linter.unusedSimpArgs false
namespace Go.Ev.W
open Go.Ev

theorem vOk_tight {m : Nat} {W : List Nat} (hm : m ≤ 5000) (ht : tight m W) : vOk m W = true := by
  unfold vOk
  rw [Int.toNat_natCast, (okW_iff m W ht.2.1).2 ht, decide_eq_true (show (0 : Int) ≤ m by omega), decide_eq_true (show (m : Int) ≤ 5000 by omega)]; rfl
theorem vOk_wrds (bs : List Bool) (h : bs.length ≤ 5000) : vOk bs.length (wrds bs) = true := vOk_tight h (wrds_tight bs)
theorem lvb_wrds (bs : List Bool) (n : Nat) (h : bs.length = n) : lvb ((n : Int), wrds bs) = bs := by
  unfold lvb
  simp only [Int.toNat_natCast]
  rw [← h]
  exact bts_wrds bs
theorem wLv_ok : ∀ (d l : Nat) (X : List Nat), X.length ≤ 1000 → (((wLv d l X).2.zip (ints (wLv d l X).1)).all fun q => lOk X.length q.1 q.2) = true
  | 0, l, X, _ => rfl
  | d + 1, l, X, h => by
    have hl := lohi_len l X
    have ih := wLv_ok d (l + 1) (wlo l X ++ whi l X) (by rw [List.length_append]; omega)
    rw [List.length_append, hl] at ih
    rw [wLv]
    show (List.all (((X.length : Int), wrds (wbs l X)) :: _ |>.zip (((wlo l X).length : Int) :: ints _)) _) = true
    rw [List.zip_cons_cons, List.all_cons, ih, Bool.and_true]
    have hb := wbs_len l X
    have h1 := vOk_wrds (wbs l X) (by omega)
    rw [hb] at h1
    unfold lOk
    simp only [Bool.and_eq_true, decide_eq_true_eq]
    refine ⟨⟨h1, trivial⟩, ?_⟩
    rw [lvb_wrds _ _ hb, zer_wbs, hb, List.take_length]; rfl
theorem wLv_path : ∀ (d l : Nat) (X : List Nat), d + l = 9 → ∀ k (hk : k < X.length), (path ((wLv d l X).2.map lvb) (k, 0)).2 = X[k] % 2 ^ d
  | 0, l, X, _, k, hk => by
    show 0 = _
    rw [Nat.pow_zero, Nat.mod_one]
  | d + 1, l, X, h, k, hk => by
    have hl := lohi_len l X
    have hb := wbs_len l X
    have hnx := nxt_lt (wbs l X) k (by omega)
    rw [hb] at hnx
    have hlen : nxt (wbs l X) k < (wlo l X ++ whi l X).length := by rw [List.length_append, hl]; exact hnx
    have ih := wLv_path d (l + 1) (wlo l X ++ whi l X) (by omega) (nxt (wbs l X) k) hlen
    have hp := part_at l X k hk
    rw [List.getElem?_eq_getElem hlen] at hp
    injection hp with hp
    rw [wLv]
    show (path (lvb ((X.length : Int), wrds (wbs l X)) :: (wLv d (l + 1) (wlo l X ++ whi l X)).2.map lvb) (k, 0)).2 = _
    rw [lvb_wrds _ _ hb]
    show (path ((wLv d (l + 1) (wlo l X ++ whi l X)).2.map lvb) (nxt (wbs l X) k, 2 * 0 + ((wbs l X).getD k false).toNat)).2 = _
    have hgd : (wbs l X).getD k false = wbit l X[k] := by
      rw [List.getD_eq_getElem?_getD]; unfold wbs; rw [List.getElem?_map, List.getElem?_eq_getElem hk]; rfl
    rw [path_val, ih, hp, hgd, List.length_map, (wLv_len' d (l + 1) _).2, Nat.mul_zero, Nat.zero_add]
    have hw : (wbit l X[k]).toNat = X[k] / 2 ^ d % 2 := by
      unfold wbit
      rw [show 8 - l = d by omega]
      rcases Nat.mod_two_eq_zero_or_one (X[k] / 2 ^ d) with h2 | h2 <;> rw [h2] <;> rfl
    rw [hw, Nat.mod_pow_succ, Nat.mul_comm, Nat.add_comm]
theorem wave_back (X : List Nat) (hX : X.length ≤ 1000) (hx : ∀ x ∈ X, x ≤ 511) : wOk X.length (ints (wLv 9 0 X).1) (wLv 9 0 X).2 = true ∧ wList X.length (wLv 9 0 X).2 = X := by
  have hl := wLv_len' 9 0 X
  constructor
  · unfold wOk
    rw [wLv_ok 9 0 X hX, decide_eq_true (show (0 : Int) ≤ X.length by omega), decide_eq_true (show (X.length : Int) ≤ 1000 by omega), decide_eq_true (show (ints (wLv 9 0 X).1).length = 9 by rw [List.length_map]; exact hl.1), decide_eq_true hl.2]; rfl
  · rw [wList_eq]
    refine List.ext_getElem (by rw [List.length_map, List.length_range]) fun k h1 h2 => ?_
    have := hx _ (List.getElem_mem h2)
    rw [List.getElem_map, List.getElem_range, wLv_path 9 0 X rfl k h2, Nat.mod_eq_of_lt (by omega)]
end Go.Ev.W

/- An index as bytes: both functions. -/
set_option linter.unusedVariables false
set_option linter.unusedSimpArgs false
namespace Go.Ev.W
open Go.Ev

/-- The bytes of packed numbers. -/
def pkB (w : Nat) (X : List Nat) : List Nat := pB w X.length ((X.length * w : Nat) : Int) (wrds (dgs w X))
theorem implPk_eq (w : Nat) (X : List Nat) (hl : X.length * w ≤ 5000) : impl_PackBytes (pk w X) = some (ints (pkB w X)) :=
  implPackBytes_eq _ _ _ _ (by rw [wrds_length, dgs_len]; unfold nw; omega) (wrds_tight _).2.1
def mkBy (r : Nat) (S : List Nat) : List Nat := bb (mkB r S).length (wrds (mkB r S))
def fmEnds (D : List Nat) (r : Nat) : List Nat := mkBy r (srt D) ++ pkB (wd D.length) (saL r (srt D)) ++ pkB (wd D.length) (isaL r D.length (srt D))
def fmBody (r : Nat) (L : List (Int × List Nat)) (E : List Nat) : List Nat := Var r ++ (L.map fun p => bb p.1 p.2).flatten ++ E
theorem pB_bytes (w n b : Int) (W : List Nat) : ∀ x ∈ pB w n b W, x < 256 := by
  intro x hx
  unfold pB at hx
  cases h : pOk w n b W with
  | false => rw [h] at hx; cases hx
  | true =>
    rw [h, bif_true] at hx
    rcases List.mem_append.1 hx with hx | hx
    · rcases List.mem_append.1 hx with hx | hx
      · exact Var_bytes _ x hx
      · exact Var_bytes _ x hx
    · exact bb_bytes _ _ x hx
theorem lv_bytes (L : List (Int × List Nat)) : ∀ x ∈ (L.map fun p => bb p.1 p.2).flatten, x < 256 := by
  intro x hx
  obtain ⟨l, hl, h2⟩ := List.mem_flatten.1 hx
  obtain ⟨p, _, rfl⟩ := List.mem_map.1 hl
  exact bb_bytes _ _ x h2
theorem fmEnds_bytes (D : List Nat) (r : Nat) : ∀ x ∈ fmEnds D r, x < 256 := by
  intro x hx
  unfold fmEnds at hx
  rcases List.mem_append.1 hx with hx | hx
  · rcases List.mem_append.1 hx with hx | hx
    · exact bb_bytes _ _ x hx
    · exact pB_bytes _ _ _ _ x hx
  · exact pB_bytes _ _ _ _ x hx
theorem fmBody_bytes (r : Nat) (L : List (Int × List Nat)) (E : List Nat) (hE : ∀ x ∈ E, x < 256) : ∀ x ∈ fmBody r L E, x < 256 := by
  intro x hx
  unfold fmBody at hx
  rcases List.mem_append.1 hx with hx | hx
  · rcases List.mem_append.1 hx with hx | hx
    · exact Var_bytes _ x hx
    · exact lv_bytes L x hx
  · exact hE x hx
theorem fmEnds_len (D : List Nat) (r : Nat) (hl : D.length ≤ 300) : (fmEnds D r).length ≤ 2700 := by
  have hs := srt_len' D
  have h1 := bb_len ((mkB r (srt D)).length : Int) (wrds (mkB r (srt D))) (by rw [mkB_len]; omega)
  have h2 := pB_len (wd D.length : Nat) (saL r (srt D)).length (((saL r (srt D)).length * wd D.length : Nat) : Int) (wrds (dgs (wd D.length) (saL r (srt D))))
  have h3 := pB_len (wd D.length : Nat) (isaL r D.length (srt D)).length (((isaL r D.length (srt D)).length * wd D.length : Nat) : Int) (wrds (dgs (wd D.length) (isaL r D.length (srt D))))
  unfold fmEnds mkBy pkB
  simp only [List.length_append]; omega
end Go.Ev.W

/- The index of a text is valid. -/
set_option linter.unusedVariables false
set_option linter.unusedSimpArgs false
namespace Go.Ev.W
open Go.Ev

theorem wLv_words64 (X : List Nat) : ∀ (d l : Nat) (Y : List Nat), ∀ p ∈ (wLv d l Y).2, ∀ x ∈ p.2, x < 2 ^ 64
  | 0, l, Y, p, h, _, _ => by cases h
  | d + 1, l, Y, p, h, x, hx => by
    rw [wLv] at h
    rcases List.mem_cons.1 h with rfl | h
    · exact (wrds_tight (wbs l Y)).2.1 x hx
    · exact wLv_words64 X d (l + 1) _ p h x hx
theorem fmV_words (D : List Nat) (r : Nat) : ∀ p ∈ (fmV D r).2.2.2.2.1, ∀ x ∈ p.2, 0 ≤ x ∧ x < ((2 ^ 64 : Nat) : Int) := by
  intro p hp x hx
  have hp' : p ∈ LI (wLv 9 0 (bwt D)).2 := hp
  obtain ⟨q, hq, rfl⟩ := List.mem_map.1 hp'
  obtain ⟨y, hy, rfl⟩ := List.mem_map.1 hx
  have := wLv_words64 [] 9 0 (bwt D) q hq y hy
  omega
end Go.Ev.W

/- Drawn inputs: rows of bits, packed numbers, texts, wavelet matrices: there is always something, within bounds. -/
set_option linter.unusedVariables false
set_option linter.unusedSimpArgs false
namespace Go.Ev.W
open Go.Ev

theorem pick2 (x : Int) (h0 : 0 ≤ x) (h1 : x < 2 ∨ x = 0) : ∃ b : Bool, x = bint b := by
  rcases Int.lt_or_le x 1 with h | h
  · exact ⟨false, by show x = 0; omega⟩
  · exact ⟨true, by show x = 1; omega⟩
theorem bool_ok (b : Bool) : spec_l01Bool b = some (bint b) := by rw [spec_l01Bool.eq]; cases b <;> rfl
theorem bints_snoc (bs : List Bool) (b : Bool) : bints bs ++ [bint b] = bints (bs ++ [b]) := by rw [← bints_app]; rfl
theorem row_l1 : ∀ (d k : Nat) (c : Cur) (bs : List Bool), CurOk k c → k + d + 1 < 100000000000 → bs.length + d = 5001 → ∃ bs' c', spec_l01Cur_row_l1 c.1 c.2.1 c.2.2 (bints bs) = some (bints bs', c') ∧ CurOk (k + d + 1) c' ∧ bs'.length ≤ 5001 := by
  intro d
  induction d with
  | zero =>
    intro k c bs h hk hl
    obtain ⟨x, c1, e1, g1, a1, b1⟩ := pick_ok h (by omega) 2
    rw [spec_l01Cur_row_l1.eq]
    simp only [pair_eta, e1, Option.bind_some]
    rw [bints_len, wrapI (x := 5000 + x) (by omega) (by omega), bif_ndec (by omega)]
    exact ⟨bs, c1, rfl, g1.mono (by omega), by omega⟩
  | succ d ih =>
    intro k c bs h hk hl
    obtain ⟨x, c1, e1, g1, a1, b1⟩ := pick_ok h (by omega) 2
    rw [spec_l01Cur_row_l1.eq]
    simp only [pair_eta, e1, Option.bind_some]
    rw [bints_len, wrapI (x := 5000 + x) (by omega) (by omega)]
    by_cases hlt : (bs.length : Int) < 5000 + x
    · have e2 : ((bs.length : Int).tmod 3).tdiv 2 = ((bs.length % 3 / 2 : Nat) : Int) := rfl
      obtain ⟨b, hb⟩ : ∃ b : Bool, IntKind.i64.wrap (((bs.length : Int).tmod 3).tdiv 2) = bint b := by
        rw [e2, wrapIn (by omega)]
        exact pick2 _ (by omega) (.inl (by omega))
      rw [bif_dec hlt, hb, bif_dec (by simp only [List.length_cons, List.length_nil]; omega), bints_snoc]
      obtain ⟨bs', c', e3, g3, h3⟩ := ih (k + 1) c1 (bs ++ [b]) g1 (by omega) (by simp only [List.length_append, List.length_cons, List.length_nil]; omega)
      exact ⟨bs', c', e3, g3.mono (by omega), h3⟩
    · rw [bif_ndec hlt]
      exact ⟨bs, c1, rfl, g1.mono (by omega), by omega⟩
theorem row_l0 (lean : Int) : ∀ (m k : Nat) (c : Cur) (bs : List Bool), CurOk k c → k + 2 * m + 5003 < 100000000000 → bs.length + m ≤ 5001 → ∃ bs' c', spec_l01Cur_row_l0 lean m c.1 c.2.1 c.2.2 (bints bs) = some (bints bs', c') ∧ CurOk (k + 2 * m + 5003) c' ∧ bs'.length ≤ 5001 := by
  intro m
  induction m with
  | zero =>
    intro k c bs h hk hl
    obtain ⟨x, c1, e1, g1⟩ := once_ok h (by omega) 60
    rw [spec_l01Cur_row_l0.eq, bif_ndec (by omega)]
    simp only [pair_eta, e1, Option.bind_some]
    cases x with
    | false => exact ⟨bs, c1, rfl, g1.mono (by omega), by omega⟩
    | true =>
      rw [bif_true]
      obtain ⟨bs', c', e2, g2, h2⟩ := row_l1 (5001 - bs.length) (k + 1) c1 bs g1 (by omega) (by omega)
      exact ⟨bs', c', e2, g2.mono (by omega), h2⟩
  | succ m ih =>
    intro k c bs h hk hl
    obtain ⟨x, c1, e1, g1, a1, b1⟩ := pick_ok h (by omega) 2
    rw [spec_l01Cur_row_l0.eq, bif_dec (by omega)]
    simp only [pair_eta, e1, Option.bind_some]
    rw [wrapI (x := ((m + 1 : Nat) : Int) - 1) (by omega) (by omega), show ((m + 1 : Nat) : Int) - 1 = m by omega]
    by_cases h0 : lean = 0
    · rw [bif_eq h0]
      obtain ⟨y, c2, e2, g2⟩ := once_ok g1 (by omega) 9
      simp only [e2, Option.bind_some, bool_ok]
      rw [bif_dec (by rw [bints_len]; simp only [List.length_cons, List.length_nil]; omega), bints_snoc]
      obtain ⟨bs', c', e3, g3, h3⟩ := ih (k + 2) c2 (bs ++ [y]) g2 (by omega) (by simp only [List.length_append, List.length_cons, List.length_nil]; omega)
      exact ⟨bs', c', e3, g3.mono (by omega), h3⟩
    · rw [bif_neq h0]
      obtain ⟨b, rfl⟩ := pick2 x a1 b1
      rw [bif_dec (by rw [bints_len]; simp only [List.length_cons, List.length_nil]; omega), bints_snoc]
      obtain ⟨bs', c', e3, g3, h3⟩ := ih (k + 1) c1 (bs ++ [b]) g1 (by omega) (by simp only [List.length_append, List.length_cons, List.length_nil]; omega)
      exact ⟨bs', c', e3, g3.mono (by omega), h3⟩
theorem row_ok {k : Nat} {c : Cur} (h : CurOk k c) (hk : k < 10000000000) : ∃ bs c', spec_l01Cur_row c = some (bints bs, c') ∧ CurOk (k + 10000) c' ∧ bs.length ≤ 5001 := by
  obtain ⟨x1, c1, e1, g1, a1, b1⟩ := pick_ok h (by omega) 4
  obtain ⟨x2, c2, e2, g2, a2, b2⟩ := pick_ok g1 (by omega) 3
  obtain ⟨y, y1, y2, y3⟩ := pick_list ([5, 40, 140] : List Int) x2 a2 (by simp; omega)
  obtain ⟨x3, c3, e3, g3, a3, b3⟩ := pick_ok g2 (by omega) y
  rw [spec_l01Cur_row.eq]
  simp only [pair_eta, e1, e2, Option.bind_some, y1, y2, e3]
  have hy : y ≤ 140 := by simp only [List.mem_cons, List.not_mem_nil, or_false] at y3; omega
  obtain ⟨m, rfl⟩ : ∃ m : Nat, x3 = m := ⟨x3.toNat, by omega⟩
  obtain ⟨bs', c', e4, g4, h4⟩ := row_l0 x1 m (k + 3) c3 [] g3 (by omega) (by simp; omega)
  exact ⟨bs', c', e4, g4.mono (by omega), h4⟩
theorem bitsOf_ok (bs : List Bool) : ∃ (n : Int) (W : List Nat) (b : Bool), spec_BitsOf (bints bs) = some ((n, ints W), b) ∧ W.length ≤ 79 ∧ ∀ x ∈ W, x < 2 ^ 64 := by
  by_cases h : bs.length ≤ 5000
  · exact ⟨_, _, true, specBitsOf_eq bs h, by rw [wrds_length]; unfold nw; omega, (wrds_tight bs).2.1⟩
  · refine ⟨0, [], false, ?_, by simp, by simp⟩
    rw [spec_BitsOf.eq, bints_len, bif_dec (by omega)]; rfl
theorem badBits_ok {k : Nat} {c : Cur} (h : CurOk k c) (hk : k < 10000000000) : ∃ (n : Int) (W : List Nat) (c' : Cur), spec_l01Cur_badBits c = some ((n, ints W), c') ∧ CurOk (k + 10010) c' ∧ W.length ≤ 80 ∧ ∀ x ∈ W, x < 2 ^ 64 := by
  obtain ⟨bs, c1, e1, g1, h1⟩ := row_ok h hk
  obtain ⟨n, W, b, e2, l2, w2⟩ := bitsOf_ok bs
  obtain ⟨x, c2, e3, g3, a3, b3⟩ := pick_ok g1 (by omega) 14
  rw [spec_l01Cur_badBits.eq]
  simp only [pair_eta, e1, Option.bind_some, e2, e3]
  by_cases q0 : x = 0
  · rw [bif_eq q0]
    obtain ⟨z, c4, e4, g4, _⟩ := raw_ok g3 (by omega)
    obtain ⟨z5, c5, e5, g5, a5, b5⟩ := pick_ok g4 (by omega) 3
    obtain ⟨y, y1, y2, y3⟩ := pick_list ([z, IntKind.i64.wrap (n + 1), IntKind.i64.wrap (n - 1)] : List Int) z5 a5 (by simp; omega)
    simp only [e4, Option.bind_some, e5, y1, y2]
    exact ⟨y, W, c5, rfl, g5.mono (by omega), by omega, w2⟩
  rw [bif_neq q0]
  by_cases q1 : x = 1
  · rw [bif_eq q1]
    obtain ⟨z5, c5, e5, g5, a5, b5⟩ := pick_ok g3 (by omega) 2
    obtain ⟨m, rfl⟩ : ∃ m : Nat, z5 = m := ⟨z5.toNat, by omega⟩
    simp only [e5, Option.bind_some]
    rw [wrapUn (by omega), bif_dec (by rw [ints_len]; simp only [List.length_cons, List.length_nil]; omega), ints_snoc]
    refine ⟨n, W ++ [m], c5, rfl, g5.mono (by omega), by simp; omega, fun x hx => ?_⟩
    rcases List.mem_append.1 hx with hx | hx
    · exact w2 x hx
    · rw [List.mem_singleton.1 hx]; omega
  rw [bif_neq q1]
  by_cases q2 : x = 2
  · rw [bif_eq q2, ints_len]
    by_cases hW : (W.length : Int) > 0
    · rw [bif_dec hW]
      obtain ⟨z5, c5, e5, g5, a5, b5⟩ := pick_ok g3 (by omega) W.length
      obtain ⟨m, rfl⟩ : ∃ m : Nat, z5 = m := ⟨z5.toNat, by omega⟩
      have hm : m < W.length := by omega
      simp only [e5, Option.bind_some]
      rw [at?_ints W m hm, Option.bind_some, Int.toNat_natCast, getElem?_ints W m hm, Option.bind_some]
      refine ⟨n, W.set m 18446744073709551615, c5, ?_, g5.mono (by omega), by rw [List.length_set]; omega, fun x hx => ?_⟩
      · rw [← ints_set]; rfl
      · rcases List.mem_or_eq_of_mem_set hx with hx | hx
        · exact w2 x hx
        · rw [hx]; decide
    · rw [bif_ndec hW]
      exact ⟨n, W, c2, rfl, g3.mono (by omega), by omega, w2⟩
  · rw [bif_neq q2]
    exact ⟨n, W, c2, rfl, g3.mono (by omega), by omega, w2⟩
theorem nums_ok {k : Nat} {c : Cur} (h : CurOk k c) (hk : k < 100000000000) (n : Nat) (hn : n ≤ 1000) (top : Int) : ∃ (X : List Nat) (c' : Cur), spec_l01Cur_numbers c n top = some (ints X, c') ∧ CurOk (k + 3000001) c' ∧ X.length ≤ n ∧ ∀ x ∈ X, (x : Int) < max 1 top := by
  obtain ⟨l, c', e, g, h1, h2⟩ := numbers_ok h hk n top (by omega) (by omega)
  obtain ⟨X, rfl, hX⟩ := ints_of l (max 1 top).toNat fun x hx => ⟨(h2 x hx).1, by have := (h2 x hx).2; omega⟩
  rw [ints_len] at h1
  exact ⟨X, c', e, g, by omega, fun x hx => by have := hX x hx; omega⟩
theorem badPacked_ok {k : Nat} {c : Cur} (h : CurOk k c) (hk : k < 1000000000) : ∃ (w n b : Int) (W : List Nat) (c' : Cur), spec_l01Cur_badPacked c = some ((w, n, b, ints W), c') ∧ CurOk (k + 4000000) c' ∧ W.length ≤ 80 ∧ ∀ x ∈ W, x < 2 ^ 64 := by
  obtain ⟨x1, c1, e1, g1, a1, b1⟩ := pick_ok h (by omega) 5
  obtain ⟨y, y1, y2, y3⟩ := pick_list ([0, 1, 3, 7, 24] : List Int) x1 a1 (by simp; omega)
  obtain ⟨w, rfl⟩ : ∃ w : Nat, y = w := ⟨y.toNat, by simp only [List.mem_cons, List.not_mem_nil, or_false] at y3; omega⟩
  have hw : w ≤ 24 := by simp only [List.mem_cons, List.not_mem_nil, or_false] at y3; omega
  have hp := Nat.two_pow_pos w
  obtain ⟨X, c2, e2, g2, l2, x2⟩ := nums_ok g1 (by omega) 20 (by omega) ((2 ^ w : Nat) : Int)
  have hXw : X.length * w ≤ 20 * 24 := Nat.mul_le_mul l2 hw
  have hpk := specPack_eq w (by omega) X (by omega) (by omega) (fun x hx => by have := x2 x hx; omega)
  have hpl := pk_words w X
  obtain ⟨x3, c3, e3, g3, a3, b3⟩ := pick_ok g2 (by omega) 12
  have hpw : ∀ x ∈ wrds (dgs w X), x < 2 ^ 64 := (wrds_tight _).2.1
  have hwl : (wrds (dgs w X)).length ≤ 79 := by rw [wrds_length, dgs_len]; unfold nw; omega
  rw [spec_l01Cur_badPacked.eq]
  have e2' : spec_l01Cur_numbers c1 20 ((2 ^ w : Nat) : Int) = some (ints X, c2) := e2
  simp only [pair_eta, e1, Option.bind_some, y1, y2, l02Pow_eq w (by omega), e2', hpk, e3]
  unfold pk
  by_cases q0 : x3 = 0
  · rw [bif_eq q0]
    obtain ⟨z, c4, e4, g4, _⟩ := raw_ok g3 (by omega)
    obtain ⟨z5, c5, e5, g5, a5, b5⟩ := pick_ok g4 (by omega) 3
    obtain ⟨y, y1, y2, y3⟩ := pick_list ([z, 32, 33] : List Int) z5 a5 (by simp; omega)
    simp only [e4, Option.bind_some, e5, y1, y2]
    exact ⟨_, _, _, _, c5, rfl, g5.mono (by omega), by omega, hpw⟩
  rw [bif_neq q0]
  by_cases q1 : x3 = 1
  · rw [bif_eq q1]
    obtain ⟨z, c4, e4, g4, _⟩ := raw_ok g3 (by omega)
    obtain ⟨z5, c5, e5, g5, a5, b5⟩ := pick_ok g4 (by omega) 2
    obtain ⟨y, y1, y2, y3⟩ := pick_list ([z, IntKind.i64.wrap ((X.length : Int) + 1)] : List Int) z5 a5 (by simp; omega)
    simp only [e4, Option.bind_some, e5, y1, y2]
    exact ⟨_, _, _, _, c5, rfl, g5.mono (by omega), by omega, hpw⟩
  rw [bif_neq q1]
  by_cases q2 : x3 = 2
  · rw [bif_eq q2]
    obtain ⟨n, W, c5, e5, g5, l5, w5⟩ := badBits_ok g3 (by omega)
    simp only [e5, Option.bind_some]
    exact ⟨_, _, _, _, c5, rfl, g5.mono (by omega), by omega, w5⟩
  · rw [bif_neq q2]
    exact ⟨_, _, _, _, c3, rfl, g3.mono (by omega), by omega, hpw⟩
end Go.Ev.W

/- What the laws' own helpers come to: marks in waves. -/
set_option linter.unusedVariables false
set_option linter.unusedSimpArgs false
namespace Go.Ev.W
open Go.Ev

abbrev lens (L : Lv) : List Nat := L.map fun p => p.2.length
theorem Small.sum {Z : List Int} {L : Lv} (h : Small Z L) : Z.length + (lens L).length + (lens L).sum ≤ 1048576 := by
  have := h.s
  rw [List.length_map]; exact this
end Go.Ev.W

/- Indexes: the laws' helpers. -/
set_option linter.unusedVariables false
set_option linter.unusedSimpArgs false
namespace Go.Ev.W
open Go.Ev

/-- What the guard gives. -/
structure GdFm (f : FmT) : Prop where
  sm : SmFm f 1048576
  wv : Small f.2.2.2.1 f.2.2.2.2.1
end Go.Ev.W

/- Where a word occurs: both functions. -/
set_option linter.unusedVariables false
set_option linter.unusedSimpArgs false
namespace Go.Ev.W
open Go.Ev

theorem ints_takeN (X : List Nat) (n : Nat) : (ints X).take n = ints (X.take n) := (List.map_take).symm
theorem ints_dropN (X : List Nat) (n : Nat) : (ints X).drop n = ints (X.drop n) := (List.map_drop).symm
section
variable (D P : List Nat) (hl : D.length ≤ 300) (hD : ByteL D) (hP : ByteL P)
include hl hD hP
end
end Go.Ev.W

/- Drawn inputs: texts, wavelet matrices, indexes: there is always something, within bounds. -/
set_option linter.unusedVariables false
set_option linter.unusedSimpArgs false
namespace Go.Ev.W
open Go.Ev

theorem ba_at (A : ByteArray) (x : Int) (h0 : 0 ≤ x) (h1 : x < A.size) : ∃ u : UInt8, at? A.data.toList x = some u := by
  have hs : A.data.toList.length = A.size := Array.length_toList
  obtain ⟨y, y1, _, _⟩ := pick_list A.data.toList x h0 (by rw [hs]; exact h1)
  exact ⟨y, y1⟩
theorem ByteL.app {A B : List Nat} (h : ByteL A) (g : ByteL B) : ByteL (A ++ B) := fun x hx => (List.mem_append.1 hx).elim (h x) (g x)
theorem textOf_l0 (n : Nat) (hn : n ≤ 1000) (A : ByteArray) (hA : 1 ≤ A.size) : ∀ (m k : Nat) (c : Cur) (D : List Nat), CurOk k c → k + 3 * m < 100000000000 → D.length + 6 * m ≤ 1000000 → ByteL D →
    ∃ (D' : List Nat) (c' : Cur), spec_l01Cur_textOf_l0 n A m c.1 c.2.1 c.2.2 (ints D) = some (ints D', c') ∧ CurOk (k + 3 * m) c' ∧ D'.length ≤ n ∧ ByteL D' := by
  intro m
  induction m with
  | zero =>
    intro k c D h hk hl hD
    rw [spec_l01Cur_textOf_l0.eq, bif_ndec (by omega), ints_len]
    by_cases hlt : (D.length : Int) > n
    · rw [bif_dec hlt, bif_dec (by omega), Int.toNat_natCast, Nat.sub_zero, ints_takeN]
      exact ⟨D.take n, c, rfl, h, by rw [List.length_take]; omega, fun x hx => hD x (List.mem_of_mem_take hx)⟩
    · rw [bif_ndec hlt]
      exact ⟨D, c, rfl, h, by omega, hD⟩
  | succ m ih =>
    intro k c D h hk hl hD
    have letter : ∀ (k' : Nat) (c' : Cur), CurOk k' c' → k' ≤ k + 1 → ∃ (D' : List Nat) (c2 : Cur), ((spec_l01Cur_pick (c'.1, c'.2.1, c'.2.2) (A.size : Int)).bind fun y6 =>
        (at? A.data.toList y6.1).bind fun y7 =>
        bif decide (((ints D).length + ([(y7.toNat : Int)] : List Int).length) * 1 ≤ 140737488355328) then
          spec_l01Cur_textOf_l0 n A m y6.2.1 y6.2.2.1 y6.2.2.2 (ints D ++ ([(y7.toNat : Int)] : List Int))
        else
          none) = some (ints D', c2) ∧ CurOk (k + 3 * (m + 1)) c2 ∧ D'.length ≤ n ∧ ByteL D' := by
      intro k' c' h' hk'
      obtain ⟨x, c1, e1, g1, a1, b1⟩ := pick_ok h' (by omega) (A.size : Int)
      obtain ⟨u, hu⟩ := ba_at A x a1 (by omega)
      have hu2 : u.toNat < 256 := u.toNat_lt
      simp only [pair_eta, e1, Option.bind_some, hu]
      rw [bif_dec (by rw [ints_len]; simp only [List.length_cons, List.length_nil]; omega), ints_snoc]
      obtain ⟨D', c2, e2, g2, l2, b2⟩ := ih (k' + 1) c1 (D ++ [u.toNat]) g1 (by omega) (by simp only [List.length_append, List.length_cons, List.length_nil]; omega) (hD.app fun x hx => by rw [List.mem_singleton.1 hx]; exact hu2)
      exact ⟨D', c2, e2, g2.mono (by omega), l2, b2⟩
    rw [spec_l01Cur_textOf_l0.eq, bif_dec (by omega)]
    have em : IntKind.i64.wrap (((m + 1 : Nat) : Int) - 1) = m := by rw [wrapI (by omega) (by omega)]; omega
    simp only [em]
    by_cases h3 : ((ints D).length : Int) > 3
    · rw [bif_dec h3]
      rw [ints_len] at h3
      obtain ⟨b, c1, e1, g1⟩ := once_ok h (by omega) 6
      simp only [pair_eta, e1, Option.bind_some]
      cases b with
      | false =>
        rw [bif_false]
        exact letter (k + 1) c1 g1 (by omega)
      | true =>
        rw [bif_true]
        obtain ⟨x2, c2, e2, g2, a2, b2⟩ := pick_ok g1 (by omega) ((ints D).length : Int)
        obtain ⟨x3, c3, e3, g3, a3, b3⟩ := pick_ok g2 (by omega) 6
        simp only [pair_eta, e2, e3, Option.bind_some]
        rw [ints_len] at b2
        rw [wrapI (x := x2 + 1) (by omega) (by omega), wrapI (x := x2 + 1 + x3) (by omega) (by omega)]
        obtain ⟨t, ht⟩ : ∃ t, t = (if x2 + 1 + x3 < ((ints D).length : Int) then x2 + 1 + x3 else ((ints D).length : Int)) := ⟨_, rfl⟩
        rw [← ht]
        have ht2 : x2 ≤ t ∧ t ≤ (D.length : Int) ∧ t ≤ x2 + 6 := by
          rw [ints_len] at ht
          rw [ht]; split <;> omega
        have hsub : ((ints D).drop x2.toNat).take (t.toNat - x2.toNat) = ints ((D.drop x2.toNat).take (t.toNat - x2.toNat)) := by rw [ints_dropN, ints_takeN]
        have hsl : ((D.drop x2.toNat).take (t.toNat - x2.toNat)).length ≤ 6 := by rw [List.length_take]; omega
        rw [ints_len, bif_dec (by omega), bif_dec (by omega), hsub, ints_len, bif_dec (by omega), show ints D ++ ints ((D.drop x2.toNat).take (t.toNat - x2.toNat)) = ints (D ++ (D.drop x2.toNat).take (t.toNat - x2.toNat)) from List.map_append.symm]
        obtain ⟨D', c4, e4, g4, l4, b4⟩ := ih (k + 3) c3 (D ++ (D.drop x2.toNat).take (t.toNat - x2.toNat)) g3 (by omega) (by rw [List.length_append]; omega) (hD.app fun x hx => hD x (List.mem_of_mem_drop (List.mem_of_mem_take hx)))
        exact ⟨D', c4, e4, g4.mono (by omega), l4, b4⟩
    · rw [bif_ndec h3]
      exact letter k c h (by omega)
theorem textOf_ok {k : Nat} {c : Cur} (h : CurOk k c) (hk : k < 10000000000) (n : Nat) (hn : n ≤ 100) : ∃ (D : List Nat) (c' : Cur), spec_l01Cur_textOf c n = some (ints D, c') ∧ CurOk (k + 1000) c' ∧ D.length ≤ n ∧ ByteL D := by
  obtain ⟨x1, c1, e1, g1, a1, b1⟩ := pick_ok h (by omega) 5
  obtain ⟨y, y1, y2, y3⟩ := pick_list ([(⟨#[97]⟩ : ByteArray), (⟨#[97, 98]⟩ : ByteArray), (⟨#[97, 98, 99]⟩ : ByteArray), (⟨#[97, 99, 103, 116]⟩ : ByteArray), (⟨#[0, 255]⟩ : ByteArray)] : List ByteArray) x1 a1 (by simp; omega)
  obtain ⟨x2, c2, e2, g2, a2, b2⟩ := size_ok g1 (by omega) n (by omega) (by omega)
  obtain ⟨m, rfl⟩ : ∃ m : Nat, x2 = m := ⟨x2.toNat, by omega⟩
  have hA : 1 ≤ y.size := by
    simp only [List.mem_cons, List.not_mem_nil, or_false] at y3
    rcases y3 with rfl | rfl | rfl | rfl | rfl <;> decide
  rw [spec_l01Cur_textOf.eq]
  simp only [pair_eta, e1, Option.bind_some, y1, y2, e2]
  obtain ⟨D, c3, e3, g3, l3, b3⟩ := textOf_l0 n (by omega) y hA m (k + 2) c2 [] g2 (by omega) (by simp; omega) (fun x hx => by cases hx)
  exact ⟨D, c3, e3, g3.mono (by omega), l3, b3⟩
theorem rate_ok {k : Nat} {c : Cur} (h : CurOk k c) (hk : k < 10000000000) : ∃ (r : Nat) (c' : Cur), spec_l01Cur_rate c = some ((r : Int), c') ∧ CurOk (k + 1) c' ∧ 1 ≤ r ∧ r ≤ 64 := by
  obtain ⟨x1, c1, e1, g1, a1, b1⟩ := pick_ok h (by omega) 5
  obtain ⟨y, y1, y2, y3⟩ := pick_list ([1, 2, 3, 8, 64] : List Int) x1 a1 (by simp; omega)
  have hy : 1 ≤ y ∧ y ≤ 64 := by simp only [List.mem_cons, List.not_mem_nil, or_false] at y3; omega
  obtain ⟨r, rfl⟩ : ∃ r : Nat, y = r := ⟨y.toNat, by omega⟩
  rw [spec_l01Cur_rate.eq]
  simp only [pair_eta, e1, Option.bind_some, y1, y2]
  exact ⟨r, c1, rfl, g1, by omega, by omega⟩
/-- Levels within bounds. -/
def LvIn (L : List (Int × List Nat)) : Prop := L.length ≤ 9 ∧ ∀ p ∈ L, p.2.length ≤ 80 ∧ ∀ x ∈ p.2, x < 2 ^ 64
theorem wave_l0 {k : Nat} {c : Cur} (h : CurOk k c) (hk : k < 1000000000) (v3 : Int) (v4 : List Int) (v5 : Lv) (X : List Nat) (hX : X.length ≤ 100) (hx : ∀ x ∈ X, x ≤ 511) :
    ∃ (n : Int) (Z : List Int) (L : List (Int × List Nat)) (c' : Cur), spec_l01Cur_wave_l0 c.1 c.2.1 c.2.2 v3 v4 v5 (ints X) = some ((n, Z, LI L), c') ∧ CurOk (k + 20000) c' ∧ Z.length ≤ 10 ∧ LvIn L := by
  have hlen := wLv_len 9 0 X
  have hZ : (ints (wLv 9 0 X).1).length = 9 := by rw [ints_len]; exact hlen.1
  have hLl : (LI (wLv 9 0 X).2).length = 9 := (List.length_map ..).trans hlen.2
  have hin : LvIn (wLv 9 0 X).2 := ⟨by omega, fun p hp => ⟨by rw [wLv_words 9 0 X p hp]; unfold nw; omega, wLv_words64 X 9 0 X p hp⟩⟩
  obtain ⟨x1, c1, e1, g1, a1, b1⟩ := pick_ok h (by omega) 14
  rw [spec_l01Cur_wave_l0.eq, specWaveOf_eq X (by omega) hx]
  simp only [pair_eta, e1, Option.bind_some]
  by_cases q0 : x1 = 0
  · rw [bif_eq q0]
    obtain ⟨x2, c2, e2, g2, _⟩ := pick_ok g1 (by omega) 3
    simp only [e2, Option.bind_some]
    exact ⟨_, _, _, c2, rfl, g2.mono (by omega), by omega, hin⟩
  rw [bif_neq q0]
  by_cases q1 : x1 = 1
  · rw [bif_eq q1]
    obtain ⟨x2, c2, e2, g2, a2, b2⟩ := pick_ok g1 (by omega) 9
    obtain ⟨x3, c3, e3, g3, _⟩ := raw_ok g2 (by omega)
    obtain ⟨y, y1, y2, y3⟩ := pick_list (ints (wLv 9 0 X).1) x2 a2 (by omega)
    simp only [e2, e3, Option.bind_some, y1, y2]
    exact ⟨_, _, _, c3, rfl, g3.mono (by omega), by rw [List.length_set]; omega, hin⟩
  rw [bif_neq q1]
  by_cases q2 : x1 = 2
  · rw [bif_eq q2]
    obtain ⟨x2, c2, e2, g2, a2, b2⟩ := pick_ok g1 (by omega) 9
    obtain ⟨n, W, c3, e3, g3, l3, w3⟩ := badBits_ok g2 (by omega)
    obtain ⟨y, y1, y2, y3⟩ := pick_list (LI (wLv 9 0 X).2) x2 a2 (by omega)
    simp only [e2, e3, Option.bind_some, y1, y2]
    refine ⟨(X.length : Int), ints (wLv 9 0 X).1, (wLv 9 0 X).2.set x2.toNat (n, W), c3, ?_, g3.mono (by omega), by omega, by rw [List.length_set]; omega, fun p hp => ?_⟩
    · have : (LI (wLv 9 0 X).2).set x2.toNat (n, ints W) = LI ((wLv 9 0 X).2.set x2.toNat (n, W)) := (List.map_set (f := fun p : Int × List Nat => (p.1, ints p.2)) (l := (wLv 9 0 X).2) (i := x2.toNat) (a := (n, W))).symm
      rw [this]
    · rcases List.mem_or_eq_of_mem_set hp with hp | hp
      · exact hin.2 p hp
      · rw [hp]; exact ⟨l3, w3⟩
  rw [bif_neq q2]
  by_cases q3 : x1 = 3
  · rw [bif_eq q3]
    obtain ⟨x2, c2, e2, g2, a2, b2⟩ := pick_ok g1 (by omega) 9
    simp only [e2, Option.bind_some]
    rw [bif_dec (by omega)]
    refine ⟨(X.length : Int), ints (wLv 9 0 X).1, (wLv 9 0 X).2.take (x2.toNat - 0), c2, ?_, g2.mono (by omega), by omega, by rw [List.length_take]; omega, fun p hp => hin.2 p (List.mem_of_mem_take hp)⟩
    have : (LI (wLv 9 0 X).2).take (x2.toNat - 0) = LI ((wLv 9 0 X).2.take (x2.toNat - 0)) := (List.map_take).symm
    rw [this]
  rw [bif_neq q3]
  by_cases q4 : x1 = 4
  · rw [bif_eq q4, hZ, bif_dec (by simp only [List.length_cons, List.length_nil]; omega)]
    exact ⟨_, _, _, c1, rfl, g1.mono (by omega), by rw [List.length_append, hZ]; simp, hin⟩
  · rw [bif_neq q4]
    exact ⟨_, _, _, c1, rfl, g1.mono (by omega), by omega, hin⟩
theorem wave_ok {k : Nat} {c : Cur} (h : CurOk k c) (hk : k < 100000000) : ∃ (n : Int) (Z : List Int) (L : List (Int × List Nat)) (c' : Cur), spec_l01Cur_wave c = some ((n, Z, LI L), c') ∧ CurOk (k + 4000000) c' ∧ Z.length ≤ 10 ∧ LvIn L := by
  obtain ⟨x1, c1, e1, g1, a1, b1⟩ := pick_ok h (by omega) 3
  obtain ⟨y, y1, y2, y3⟩ := pick_list ([3, 100, 512] : List Int) x1 a1 (by simp; omega)
  have hy : 1 ≤ y ∧ y ≤ 512 := by simp only [List.mem_cons, List.not_mem_nil, or_false] at y3; omega
  obtain ⟨X, c2, e2, g2, l2, x2⟩ := nums_ok g1 (by omega) 24 (by omega) y
  obtain ⟨b, c3, e3, g3⟩ := once_ok g2 (by omega) 3
  have e2' : spec_l01Cur_numbers c1 24 y = some (ints X, c2) := e2
  rw [spec_l01Cur_wave.eq]
  simp only [pair_eta, e1, Option.bind_some, y1, y2, e2', e3]
  cases b with
  | false =>
    rw [bif_false]
    obtain ⟨n, Z, L, c4, e4, g4, h4⟩ := wave_l0 g3 (by omega) 0 [] [] X (by omega) (fun x hx => by have := x2 x hx; omega)
    exact ⟨n, Z, L, c4, e4, g4.mono (by omega), h4⟩
  | true =>
    rw [bif_true]
    obtain ⟨D, c4, e4, g4, l4, b4⟩ := textOf_ok g3 (by omega) 24 (by omega)
    have e4' : spec_l01Cur_textOf c3 24 = some (ints D, c4) := e4
    simp only [e4', Option.bind_some]
    rw [specBwt_eq D (by omega) b4, Option.bind_some]
    obtain ⟨n, Z, L, c5, e5, g5, h5⟩ := wave_l0 g4 (by omega) 0 [] [] (bwt D) (by rw [bwt_len]; omega) (fun x hx => by have := bwt_le D b4 x hx; omega)
    exact ⟨n, Z, L, c5, e5, g5.mono (by omega), h5⟩
/-- An index within bounds. -/
def FmIn (f : FmT) : Prop := SmFm f 1048576 ∧ ∀ p ∈ f.2.2.2.2.1, ∀ x ∈ p.2, 0 ≤ x ∧ x < ((2 ^ 64 : Nat) : Int)
theorem LvIn.words {L : List (Int × List Nat)} (h : LvIn L) : (LI L).length ≤ 9 ∧ (∀ p ∈ LI L, p.2.length ≤ 80) ∧ ∀ p ∈ LI L, ∀ x ∈ p.2, 0 ≤ x ∧ x < ((2 ^ 64 : Nat) : Int) := by
  refine ⟨by rw [List.length_map]; exact h.1, fun p hp => ?_, fun p hp x hx => ?_⟩
  · obtain ⟨q, hq, rfl⟩ := List.mem_map.1 hp
    rw [ints_len]; exact (h.2 q hq).1
  · obtain ⟨q, hq, rfl⟩ := List.mem_map.1 hp
    obtain ⟨y, hy, rfl⟩ := List.mem_map.1 hx
    have := (h.2 q hq).2 y hy
    omega
theorem fm_ok {k : Nat} {c : Cur} (h : CurOk k c) (hk : k < 10000000) : ∃ (f : FmT) (c' : Cur), spec_l01Cur_fm c = some (f, c') ∧ CurOk (k + 5000000) c' ∧ FmIn f := by
  obtain ⟨D, c1, e1, g1, l1, b1⟩ := textOf_ok h (by omega) 24 (by omega)
  have e1' : spec_l01Cur_textOf c 24 = some (ints D, c1) := e1
  obtain ⟨r, c2, e2, g2, r1, r2⟩ := rate_ok g1 (by omega)
  have e3 := specFm_eq D (by omega) b1 r (by omega) r2
  obtain ⟨x, c4, e4, g4, a4, b4⟩ := pick_ok g2 (by omega) 16
  have hs := fmV_small D (by omega) r
  have hw := fmV_words D r
  have hC : (fmV D r).2.2.2.2.2.1.length = 258 := by show (ints _).length = _; rw [ints_len, List.length_map, List.length_range]
  obtain ⟨f, hf⟩ : ∃ f, f = fmV D r := ⟨_, rfl⟩
  rw [← hf] at e3 hs hw hC
  obtain ⟨z, l, w, cc, m, s, i⟩ := hs
  rw [spec_l01Cur_fm.eq]
  simp only [pair_eta, e1', Option.bind_some, e2, e3, e4]
  by_cases q0 : x = 0
  · rw [bif_eq q0]
    obtain ⟨x5, c5, e5, g5, _⟩ := pick_ok g4 (by omega) 3
    simp only [e5, Option.bind_some]
    exact ⟨_, c5, rfl, g5.mono (by omega), ⟨by simp only; omega, by simp only; omega, fun p hp => by have := w p hp; omega, by simp only; omega, by simp only; omega, by simp only; omega, by simp only; omega⟩, hw⟩
  rw [bif_neq q0]
  by_cases q1 : x = 1
  · rw [bif_eq q1]
    obtain ⟨x5, c5, e5, g5, _⟩ := raw_ok g4 (by omega)
    obtain ⟨x6, c6, e6, g6, a6, b6⟩ := pick_ok g5 (by omega) 4
    obtain ⟨y, y1, y2, y3⟩ := pick_list ([x5, 64, 65, 2] : List Int) x6 a6 (by simp; omega)
    simp only [e5, e6, Option.bind_some, y1, y2]
    exact ⟨_, c6, rfl, g6.mono (by omega), ⟨by simp only; omega, by simp only; omega, fun p hp => by have := w p hp; omega, by simp only; omega, by simp only; omega, by simp only; omega, by simp only; omega⟩, hw⟩
  rw [bif_neq q1]
  by_cases q2 : x = 2
  · rw [bif_eq q2]
    obtain ⟨n, Z, L, c5, e5, g5, hZ, hL⟩ := wave_ok g4 (by omega)
    obtain ⟨k1, k2, k3⟩ := hL.words
    simp only [e5, Option.bind_some]
    exact ⟨_, c5, rfl, g5.mono (by omega), ⟨by simp only; omega, by simp only; omega, fun p hp => by have := k2 p hp; omega, by simp only; omega, by simp only; omega, by simp only; omega, by simp only; omega⟩, k3⟩
  rw [bif_neq q2]
  by_cases q3 : x = 3
  · rw [bif_eq q3]
    obtain ⟨x5, c5, e5, g5, a5, b5⟩ := pick_ok g4 (by omega) 250
    obtain ⟨x6, c6, e6, g6, _⟩ := raw_ok g5 (by omega)
    obtain ⟨y, y1, y2, y3⟩ := pick_list f.2.2.2.2.2.1 x5 a5 (by omega)
    simp only [e5, e6, Option.bind_some, y1, y2]
    exact ⟨_, c6, rfl, g6.mono (by omega), ⟨by simp only; omega, by simp only; omega, fun p hp => by have := w p hp; omega, by simp only [List.length_set]; omega, by simp only; omega, by simp only; omega, by simp only; omega⟩, hw⟩
  rw [bif_neq q3]
  by_cases q4 : x = 4
  · rw [bif_eq q4]
    obtain ⟨n, W, c5, e5, g5, l5, _⟩ := badBits_ok g4 (by omega)
    simp only [e5, Option.bind_some]
    have hl : (ints W).length ≤ 80 := by rw [ints_len]; exact l5
    exact ⟨_, c5, rfl, g5.mono (by omega), ⟨by simp only; omega, by simp only; omega, fun p hp => by have := w p hp; omega, by simp only; omega, by simp only; omega, by simp only; omega, by simp only; omega⟩, hw⟩
  rw [bif_neq q4]
  by_cases q5 : x = 5
  · rw [bif_eq q5]
    obtain ⟨u, n, b, W, c5, e5, g5, l5, _⟩ := badPacked_ok g4 (by omega)
    simp only [e5, Option.bind_some]
    have hl : (ints W).length ≤ 80 := by rw [ints_len]; exact l5
    exact ⟨_, c5, rfl, g5.mono (by omega), ⟨by simp only; omega, by simp only; omega, fun p hp => by have := w p hp; omega, by simp only; omega, by simp only; omega, by simp only; omega, by simp only; omega⟩, hw⟩
  rw [bif_neq q5]
  by_cases q6 : x = 6
  · rw [bif_eq q6]
    exact ⟨_, c4, rfl, g4.mono (by omega), ⟨by simp only; omega, by simp only; omega, fun p hp => by have := w p hp; omega, by simp only; omega, by simp only; omega, by simp only; omega, by simp only; omega⟩, hw⟩
  · rw [bif_neq q6]
    exact ⟨_, c4, rfl, g4.mono (by omega), ⟨by omega, by omega, fun p hp => by have := w p hp; omega, by omega, by omega, by omega, by omega⟩, hw⟩
theorem bigD_eq (xs : List Int) : laws_big xs = some (decide ((xs.length : Int) > 1048576)) := laws_big.eq xs
theorem codeD_bytes {xs : List Int} (h : AllP (α := Tup [CT.int .u8]) (allL (goodC 4) [CT.int .u8]) xs) (hl : ¬ (xs.length : Int) > 1048576) : Bytes xs := by
  refine ⟨by omega, fun x hx => ?_⟩
  have := h.2 x hx
  have : (Lit.int .u8 x).wf = true := this
  simp only [Lit.wf, Bool.and_eq_true, decide_eq_true_eq] at this
  exact this
end Go.Ev.W

/- Bits out of bytes: the program's; the law. -/
set_option linter.unusedVariables false
set_option linter.unusedSimpArgs false
namespace Go.Ev.W
open Go.Ev

/-- Words with the bits of the first m bytes. -/
def filled (B : List Nat) (n m : Nat) (V : List Nat) : Prop := V.length = nw n ∧ (∀ x ∈ V, x < 2 ^ 64) ∧ ∀ i, bit V i = (decide (i < 8 * m) && bbit B i)
theorem bit_set (V : List Nat) (j x i : Nat) (hj : j < V.length) : bit (V.set j x) i = if i / 64 = j then x.testBit (i % 64) else bit V i := by
  unfold bit
  rw [List.getD_eq_getElem?_getD, List.getD_eq_getElem?_getD]
  by_cases h : i / 64 = j
  · rw [if_pos h, h, List.getElem?_set_self hj]; rfl
  · rw [if_neg h, List.getElem?_set_ne (by omega)]
theorem filled_step (B : List Nat) (hB : ByteL B) (n m : Nat) (hm : m < B.length) (hn : B.length = (n + 7) / 8) (V : List Nat) (h : filled B n m V) : 8 * m / 64 < V.length ∧ V.getD (8 * m / 64) 0 < 2 ^ 64 ∧ B[m] * 2 ^ (8 * m % 64) < 2 ^ 64 ∧ filled B n (m + 1) (V.set (8 * m / 64) (V.getD (8 * m / 64) 0 ||| B[m] * 2 ^ (8 * m % 64))) := by
  obtain ⟨h1, h2, h3⟩ := h
  unfold nw at h1
  have hj : 8 * m / 64 < V.length := by omega
  have hx := getD_lt V h2 (8 * m / 64)
  have hy := hB _ (List.getElem_mem hm)
  have hs : 8 * m % 64 ≤ 56 := by omega
  have hsh : B[m] * 2 ^ (8 * m % 64) < 2 ^ 64 := by
    have : B[m] * 2 ^ (8 * m % 64) < 256 * 2 ^ (8 * m % 64) := Nat.mul_lt_mul_of_pos_right hy (Nat.two_pow_pos _)
    have h2 : 256 * 2 ^ (8 * m % 64) ≤ 2 ^ 64 := by
      rw [show (256 : Nat) = 2 ^ 8 by rfl, ← Nat.pow_add]
      exact Nat.pow_le_pow_right (by omega) (by omega)
    omega
  refine ⟨hj, hx, hsh, ?_, ?_, fun i => ?_⟩
  · rw [List.length_set]; exact h1
  · intro x hx'
    rcases List.mem_or_eq_of_mem_set hx' with hx' | rfl
    · exact h2 x hx'
    · exact Nat.or_lt_two_pow hx hsh
  · rw [bit_set _ _ _ _ hj]
    have hbb : bbit B (8 * m + (i - 8 * m)) = (B.getD ((8 * m + (i - 8 * m)) / 8) 0).testBit ((8 * m + (i - 8 * m)) % 8) := rfl
    by_cases hij : i / 64 = 8 * m / 64
    · rw [if_pos hij, Nat.testBit_or, ← Nat.shiftLeft_eq, Nat.testBit_shiftLeft]
      have e1 : (V.getD (8 * m / 64) 0).testBit (i % 64) = bit V i := by unfold bit; rw [hij]
      rw [e1, h3 i]
      by_cases hi : i < 8 * m
      · rw [decide_eq_true hi, decide_eq_false (show ¬ i % 64 ≥ 8 * m % 64 by omega), decide_eq_true (show i < 8 * (m + 1) by omega)]
        simp
      · rw [decide_eq_false hi, decide_eq_true (show i % 64 ≥ 8 * m % 64 by omega), Bool.false_and, Bool.false_or, Bool.true_and]
        by_cases hi2 : i < 8 * (m + 1)
        · have e2 : bbit B i = B[m].testBit (i % 64 - 8 * m % 64) := by
            unfold bbit
            rw [show i / 8 = m by omega, show i % 8 = i % 64 - 8 * m % 64 by omega, List.getD_eq_getElem?_getD, List.getElem?_eq_getElem hm]; rfl
          rw [decide_eq_true hi2, Bool.true_and, e2]
        · rw [decide_eq_false hi2, Bool.false_and]
          exact Nat.testBit_lt_two_pow (Nat.lt_of_lt_of_le hy (Nat.pow_le_pow_right (n := 2) (i := 8) (by omega) (by omega)))
    · rw [if_neg hij, h3 i]
      by_cases hi : i < 8 * m
      · rw [decide_eq_true hi, decide_eq_true (show i < 8 * (m + 1) by omega)]
      · rw [decide_eq_false hi, decide_eq_false (show ¬ i < 8 * (m + 1) by omega)]
theorem filled_end (B : List Nat) (hB : ByteL B) (n : Nat) (hn : B.length = (n + 7) / 8) (V : List Nat) (h : filled B n B.length V) : (tight n V ↔ bys (lbits B n) = B) ∧ (tight n V → V = wrds (lbits B n)) := by
  obtain ⟨h1, h2, h3⟩ := h
  have hall : ∀ i, bit V i = bbit B i := by
    intro i
    rw [h3]
    by_cases hi : i < 8 * B.length
    · rw [decide_eq_true hi, Bool.true_and]
    · rw [decide_eq_false hi, Bool.false_and]
      unfold bbit
      rw [List.getD_eq_getElem?_getD, List.getElem?_eq_none (by omega)]
      exact (Nat.zero_testBit _).symm
  refine ⟨?_, fun ht => ?_⟩
  · rw [bys_iff B hB n hn]
    constructor
    · intro ht i hi; rw [← hall]; exact ht.2.2 i hi
    · intro hb; exact ⟨h1, h2, fun i hi => by rw [hall]; exact hb i hi⟩
  · rw [← wrds_bts n V ht]
    congr 1
    exact List.map_congr_left fun i _ => hall i
theorem implBitsRead_l1 (B : List Nat) (hB : ByteL B) (n b : Nat) (hn : n ≤ 5000) (hb : b ≤ 1048576) (hBl : B.length = (n + 7) / 8) (e5 : Int) (e6 : List Int) : ∀ (d m : Nat), B.length - m = d → m ≤ B.length → ∀ V : List Nat, filled B n m V →
    impl_BitsRead_l1 b ((n + 7) / 8 : Nat) (ints B) B.length m e5 e6 n (ints V) = some (if bys (lbits B n) = B then (((n : Int), ints (wrds (lbits B n))), ((b + (n + 7) / 8 : Nat) : Int), true) else (((0 : Int), []), 0, false)) := by
  intro d
  induction d with
  | zero =>
    intro m hd hm V hV
    have hmm : m = B.length := by omega
    subst hmm
    have hf := filled_end B hB n hBl V hV
    have hvl : V.length ≤ 100 := by rw [hV.1]; exact nw_le hn
    rw [impl_BitsRead_l1.eq, bif_ndec (by omega), implBitsOk_eq _ _ (by omega) hV.2.1, Option.bind_some]
    have hv : vOk (n : Int) V = okW n V := by
      unfold vOk
      rw [decide_eq_true (show (0 : Int) ≤ n by omega), decide_eq_true (show (n : Int) ≤ 5000 by omega), Int.toNat_natCast]; rfl
    rw [hv]
    cases ho : okW n V with
    | false =>
      rw [if_neg (fun h => by have := (okW_iff n V hV.2.1).2 (hf.1.2 h); rw [ho] at this; cases this)]
      rfl
    | true =>
      have ht := (okW_iff n V hV.2.1).1 ho
      rw [if_pos (hf.1.1 ht), Bool.not_true, bif_false, ← hf.2 ht, ← Int.natCast_add, wrapIn (by omega)]
  | succ d ih =>
    intro m hd hm V hV
    have hmb : m < B.length := by omega
    obtain ⟨h1, h2, h3, h4⟩ := filled_step B hB n m hmb hBl V hV
    have hg : V.getD (8 * m / 64) 0 = V[8 * m / 64] := by rw [List.getD_eq_getElem?_getD, List.getElem?_eq_getElem h1]; rfl
    have hy := hB _ (List.getElem_mem hmb)
    have e0 : IntKind.i64.wrap ((m : Int) * 8) = ((8 * m : Nat) : Int) := by rw [show (m : Int) * 8 = ((8 * m : Nat) : Int) by omega]; exact wrapIn (by omega)
    have e1 : ((8 * m : Nat) : Int).tdiv 64 = ((8 * m / 64 : Nat) : Int) := rfl
    have e2 : ((8 * m : Nat) : Int).tmod 64 = ((8 * m % 64 : Nat) : Int) := rfl
    have e3 : min ((8 * m % 64 : Nat) : Int).toNat 64 = 8 * m % 64 := by omega
    have e4 : (2 : Int) ^ (8 * m % 64) = ((2 ^ (8 * m % 64) : Nat) : Int) := by simp
    have b2 := bv_or 64 V[8 * m / 64] (B[m] * 2 ^ (8 * m % 64)) (by rw [← hg]; exact h2) h3
    have hor : V[8 * m / 64] ||| B[m] * 2 ^ (8 * m % 64) < 2 ^ 64 := Nat.or_lt_two_pow (by rw [← hg]; exact h2) h3
    rw [impl_BitsRead_l1.eq, bif_dec (by omega), e0, e1, e2, wrapIn (z := 8 * m / 64) (by omega), at?_ints _ _ hmb, Option.bind_some, at?_ints _ _ h1, Option.bind_some, Int.toNat_natCast, getElem?_ints _ _ h1, Option.bind_some, bif_ndec (by omega), Option.bind_some, Option.bind_some, e3, e4, wrapUn (z := B[m]) (by omega), ← Int.natCast_mul, wrapUn h3, b2, wrapUn hor, wrapS _ (by omega), ints_set, ← hg]
    exact ih (m + 1) (by omega) (by omega) _ h4
theorem implBitsRead_eq (D : List Nat) (hD : ByteL D) (hl : D.length ≤ 1048576) (a : Int) : impl_BitsRead (ints D) a = some (BRd D a) := by
  rw [impl_BitsRead.eq, implVarRead_eq D hD hl, Option.bind_some]
  unfold BRd
  obtain ⟨v, hv⟩ : ∃ v, v = VRd D a := ⟨_, rfl⟩
  rw [← hv]
  obtain ⟨n, b, ok⟩ := v
  cases ok with
  | false => rfl
  | true =>
    obtain ⟨a', n', b', rfl, rfl, rfl, h1, h2, h3, h4⟩ := VRd_ok hv.symm
    simp only [Bool.not_true, bif_false, Int.toNat_natCast, List.length_map]
    by_cases h5 : (n' : Int) > 5000
    · rw [bif_dec h5, if_pos h5]
    rw [bif_ndec h5, if_neg h5]
    have e1 : ((n' : Int) + 7).tdiv 8 = (((n' + 7) / 8 : Nat) : Int) := rfl
    rw [wrapI (x := (n' : Int) + 8) (by omega) (by omega), wrapI (x := (n' : Int) + 8 - 1) (by omega) (by omega), show (n' : Int) + 8 - 1 = n' + 7 by omega, e1, wrapIn (z := (n' + 7) / 8) (by omega), wrapI (x := (D.length : Int) - b') (by omega) (by omega)]
    by_cases h6 : (n' + 7) / 8 + b' > D.length
    · rw [bif_dec (by omega), if_pos h6]
    have e2 : ((n' : Int) + 63).tdiv 64 = ((nw n' : Nat) : Int) := rfl
    have hnw : nw n' ≤ 100 := nw_le (by omega)
    rw [bif_ndec (by omega), if_neg h6, impl_BitsRead_l0.eq, wrapI (x := (n' : Int) + 64) (by omega) (by omega), wrapI (x := (n' : Int) + 64 - 1) (by omega) (by omega), show (n' : Int) + 64 - 1 = n' + 63 by omega, e2, wrapIn (z := nw n') (by omega), ← Int.natCast_add, wrapIn (z := b' + (n' + 7) / 8) (by omega), Int.toNat_natCast, Int.toNat_natCast, Int.toNat_natCast, List.length_map]
    have e3 : (decide ((0 : Int) ≤ ((nw n' : Nat) : Int)) && decide (nw n' * 8 ≤ 140737488355328)) = true := by simp; omega
    rw [e3, bif_true, bif_dec (by omega), bif_dec (by omega), ints_take, ints_drop, List.drop_take, Nat.add_sub_cancel_left]
    have hrep : List.replicate (nw n') (0 : Int) = ints (List.replicate (nw n') 0) := by simp
    rw [hrep]
    obtain ⟨B, hB⟩ : ∃ B, B = (D.drop b').take ((n' + 7) / 8) := ⟨_, rfl⟩
    have hBl : B.length = (n' + 7) / 8 := by rw [hB, List.length_take, List.length_drop]; omega
    have hBb : ByteL B := by rw [hB]; exact (hD.drop _).take _
    simp only [brFin]
    rw [← hB]
    have := implBitsRead_l1 B hBb n' b' (by omega) (by omega) hBl 0 [] B.length 0 (by omega) (by omega) (List.replicate (nw n') 0) ⟨by simp, by intro x hx; rw [(List.mem_replicate.1 hx).2]; omega, fun i => by
      unfold bit
      rw [List.getD_eq_getElem?_getD, List.getElem?_replicate]
      split <;> simp⟩
    rw [List.length_map]
    exact this
end Go.Ev.W

/- The law of WaveRead. -/
set_option linter.unusedVariables false
set_option linter.unusedSimpArgs false
namespace Go.Ev.W
open Go.Ev

theorem BRd_ok {D : List Nat} {a : Int} (h : (BRd D a).2.2 = true) : ∃ (m : Nat) (W : List Nat), (BRd D a).1 = ((m : Int), ints W) ∧ m ≤ 5000 ∧ W.length ≤ 100 ∧ tight m W := by
  unfold BRd at h ⊢
  cases hv : (VRd D a).2.2 with
  | false => rw [hv] at h; cases h
  | true =>
    rw [hv] at h
    rw [Bool.not_true, bif_false] at h ⊢
    split at h
    · cases h
    · rename_i h1
      rw [if_neg h1]
      split at h
      · cases h
      · rename_i h2
        rw [if_neg h2]
        unfold brFin at h ⊢
        simp only at h ⊢
        split at h
        · rename_i h3
          rw [if_pos h3]
          have ht := wrds_tight (lbits ((D.drop (VRd D a).2.1.toNat).take (((VRd D a).1.toNat + 7) / 8)) (VRd D a).1.toNat)
          rw [lbits_length] at ht
          refine ⟨_, _, rfl, by omega, ?_, ht⟩
          rw [ht.1]; exact nw_le (by omega)
        · cases h
abbrev Wv := Int × List Int × List (Int × List Int)
def badW : Wv × Int × Bool := ((0, [], []), 0, false)
def WL (D : List Nat) : Nat → Int → Int → List Int → List (Int × List Nat) → Wv × Int × Bool
  | 0, a, n, Z, L => bif wOk n Z L then ((n, Z, LI L), a, true) else badW
  | k + 1, a, _, Z, L => bif !(BRd D a).2.2 then badW else
      let p := ((BRd D a).1.1, (BRd D a).1.2.map Int.toNat)
      WL D k (BRd D a).2.1 p.1 (Z ++ [((zer (lvb p) (lvb p).length : Nat) : Int)]) (L ++ [p])
theorem toNat_ints' (W : List Nat) : (ints W).map Int.toNat = W := by
  unfold ints
  rw [List.map_map]
  exact (List.map_congr_left fun x _ => by simp).trans (List.map_id W)
theorem LI_app (L : List (Int × List Nat)) (p : Int × List Nat) : LI (L ++ [p]) = LI L ++ [(p.1, ints p.2)] := List.map_append
theorem implWaveRead_l (D : List Nat) (hD : ByteL D) (hl : D.length ≤ 1048576) (c1 : Int) (c2 : List Int) (c3 : List (Int × List Int)) : ∀ (d i : Nat) (a n : Int) (Z : List Int) (L : List (Int × List Nat)), 9 - i = d → i ≤ 9 → Z.length = i → L.length = i → (∀ p ∈ L, p.2.length ≤ 100) → (∀ p ∈ L, ∀ x ∈ p.2, x < 2 ^ 64) →
    impl_WaveRead_l0 (ints D) a i c1 c2 c3 n Z (LI L) = some (WL D d a n Z L) := by
  intro d
  induction d with
  | zero =>
    intro i a n Z L h1 h2 h3 h4 h5 h6
    rw [impl_WaveRead_l0.eq, bif_ndec (by omega), implWaveOk_eq n Z L (fun p hp => by have := h5 p hp; omega) h6, Option.bind_some, WL]
    cases wOk n Z L <;> rfl
  | succ d ih =>
    intro i a n Z L h1 h2 h3 h4 h5 h6
    rw [impl_WaveRead_l0.eq, bif_dec (by omega), implBitsRead_eq D hD hl, Option.bind_some, WL]
    cases hb : (BRd D a).2.2 with
    | false => rfl
    | true =>
      obtain ⟨m, W, e1, e2, e3, e4⟩ := BRd_ok hb
      rw [Bool.not_true, bif_false, bif_false]
      simp only [e1, toNat_ints']
      have hbl : (lvb ((m : Int), W)).length = m := by unfold lvb; rw [bts_length, Int.toNat_natCast]
      have e5 : bts m W = lvb ((m : Int), W) := by unfold lvb; rw [Int.toNat_natCast]
      rw [bitsList_eq m W e2 e4.2.1 e4, Option.bind_some, e5, count_eq _ (by omega), Option.bind_some, bif_dec (by simp only [List.length_cons, List.length_nil]; omega), bif_dec (by simp only [List.length_cons, List.length_nil, List.length_map]; omega), wrapS i (by omega)]
      rw [← LI_app L ((m : Int), W)]
      refine ih (i + 1) _ _ _ _ (by omega) (by omega) (by rw [List.length_append, h3]; rfl) (by rw [List.length_append, h4]; rfl) ?_ ?_
      · intro p hp
        rcases List.mem_append.1 hp with hp | hp
        · exact h5 p hp
        · rw [List.mem_singleton.1 hp]; exact e3
      · intro p hp
        rcases List.mem_append.1 hp with hp | hp
        · exact h6 p hp
        · rw [List.mem_singleton.1 hp]; exact e4.2.1
def WRd (D : List Nat) (a : Int) : Wv × Int × Bool := WL D 9 a 0 [] []
theorem implWaveRead_eq (D : List Nat) (hD : ByteL D) (hl : D.length ≤ 1048576) (a : Int) : impl_WaveRead (ints D) a = some (WRd D a) := by
  rw [impl_WaveRead.eq]
  exact implWaveRead_l D hD hl 0 [] [] 9 0 a 0 [] [] rfl (by omega) rfl rfl (by simp) (by simp)
end Go.Ev.W

/- Frames out of bytes; an index out of bytes: both functions. -/
set_option linter.unusedVariables false
set_option linter.unusedSimpArgs false
namespace Go.Ev.W
open Go.Ev

abbrev FrT := (Int × List Int) × Int × Bool
def badF : FrT := ((0, []), 0, false)
def frFin (D : List Nat) (n b : Nat) : FrT :=
  if b + n + 4 ≤ D.length ∧ frame (D.getD 1 0) ((D.take (b + n)).drop b) = D.take (b + n + 4) then (((D.getD 1 0 : Nat), ints ((D.take (b + n)).drop b)), ((b + n + 4 : Nat) : Int), true) else badF
def FRd (D : List Nat) : FrT :=
  if D.length < 2 then badF else if (VRd D 2).2.2 = false then badF else if (VRd D 2).1 > 8000 then badF else frFin D (VRd D 2).1.toNat (VRd D 2).2.1.toNat
theorem frame_size (k : Nat) (B : List Nat) (h : B.length ≤ 8000) : (frame k B).length = 2 + (Var B.length).length + B.length + 4 := by
  unfold frame
  rw [if_pos h, List.length_append]
  unfold frH
  simp only [List.length_append, List.length_cons, List.length_nil]
  simp [four]
theorem clone_eq' (x : List Int) (h : x.length ≤ 1048576) : bytes_Clone x = some x := by
  have e : (bif decide ((([] : List Int).length + x.length) * 1 ≤ 140737488355328) then some (([] : List Int) ++ x) else none) = some x := by
    rw [bif_dec (by simp only [List.length_nil]; omega)]; rfl
  rw [bytes_Clone.eq, e]
  cases x with
  | nil => exact both_self _
  | cons y ys => rfl
theorem td_ints (D : List Nat) (a b : Nat) : ((ints D).take a).drop b = ints ((D.take a).drop b) := by rw [ints_takeN, ints_dropN]
theorem equalB_eq (X Y : List Nat) (hX : ByteL X) (hY : ByteL Y) : bytes_Equal (ints X) (ints Y) = some (decide (X = Y)) := by
  rw [bytes_Equal.eq, strOf_eq X Y hX hY]
theorem frame_bytes (k : Nat) (B : List Nat) (hk : k < 256) (hB : ∀ x ∈ B, x < 256) : ByteL (frame k B) := by
  intro x hx
  unfold frame at hx
  split at hx
  · rcases List.mem_append.1 hx with hx | hx
    · exact frH_bytes k B hk hB x hx
    · simp only [four, List.mem_cons, List.not_mem_nil, or_false] at hx
      omega
  · cases hx
theorem implFrameRead_eq (D : List Nat) (hD : ByteL D) (hl : D.length ≤ 1048576) : impl_FrameRead (ints D) 0 = some (FRd D) := by
  rw [impl_FrameRead.eq, withinN_eq, ints_len, wrapI (x := (D.length : Int) - 2) (by omega) (by omega), Option.bind_some]
  unfold FRd
  by_cases h2 : D.length < 2
  · rw [if_pos h2, decide_eq_true (show (0 : Int) ≤ 0 by omega), decide_eq_false (show ¬ (0 : Int) ≤ (D.length : Int) - 2 by omega)]; rfl
  rw [if_neg h2, decide_eq_true (show (0 : Int) ≤ 0 by omega), decide_eq_true (show (0 : Int) ≤ (D.length : Int) - 2 by omega), Bool.and_true, Bool.not_true, bif_false, show IntKind.i64.wrap ((0 : Int) + 2) = 2 from rfl, implVarRead_eq D hD hl, Option.bind_some]
  cases hv : (VRd D 2).2.2 with
  | false => rfl
  | true =>
    obtain ⟨a', n, b, ha, hn, hb, q1, q2, q3, q4⟩ := VRd_ok (show VRd D 2 = ((VRd D 2).1, (VRd D 2).2.1, true) from Prod.ext rfl (Prod.ext rfl hv))
    rw [Bool.not_true, bif_false, if_neg (by simp), hn, hb, Int.toNat_natCast, Int.toNat_natCast]
    by_cases h3 : (n : Int) > 8000
    · rw [bif_dec h3, if_pos h3]; rfl
    rw [bif_ndec h3, if_neg h3, wrapI (x := (n : Int) + 4) (by omega) (by omega), wrapI (x := (D.length : Int) - (b : Int)) (by omega) (by omega)]
    unfold frFin
    by_cases h4 : b + n + 4 ≤ D.length
    · have h1 : 1 < D.length := by omega
      have hg : D.getD 1 0 = D[1] := by rw [List.getD_eq_getElem?_getD, List.getElem?_eq_getElem h1]; rfl
      have hk := hD _ (List.getElem_mem h1)
      have hB : ByteL ((D.take (b + n)).drop b) := fun x hx => hD x (List.mem_of_mem_take (List.mem_of_mem_drop hx))
      rw [bif_ndec (by omega), impl_FrameRead_l0.eq, show IntKind.i64.wrap ((0 : Int) + 1) = ((1 : Nat) : Int) from rfl, at?_ints _ _ h1, Option.bind_some, wrapI (x := (b : Int) + (n : Int)) (by omega) (by omega), show (b : Int) + (n : Int) = ((b + n : Nat) : Int) by omega, wrapI (x := ((b + n : Nat) : Int) + 4) (by omega) (by omega), show ((b + n : Nat) : Int) + 4 = ((b + n + 4 : Nat) : Int) by omega, ints_len, bif_dec (by omega), Int.toNat_natCast, bif_dec (by omega), Int.toNat_natCast, td_ints, clone_eq' _ (by rw [ints_len, List.length_drop, List.length_take]; omega), Option.bind_some, wrapIn (z := D[1]) (by omega), implFrame_eq _ _ hk hB, Option.bind_some, bif_dec (by omega), Int.toNat_natCast, bif_dec (by omega), show (0 : Int).toNat = 0 from rfl, td_ints, List.drop_zero, equalB_eq _ _ (frame_bytes _ _ hk hB) (fun x hx => hD x (List.mem_of_mem_take hx)), Option.bind_some, hg]
      by_cases h5 : frame D[1] ((D.take (b + n)).drop b) = D.take (b + n + 4)
      · rw [decide_eq_true h5, Bool.not_true, bif_false, if_pos ⟨h4, h5⟩]
      · rw [decide_eq_false h5, Bool.not_false, bif_true, if_neg (fun h => h5 h.2)]; rfl
    · rw [bif_dec (by omega), if_neg (fun h => h4 h.1)]; rfl
abbrev fmZ : FmT := (0, 0, 0, [], [], [], 0, [], 0, 0, 0, [], 0, 0, 0, [])
end Go.Ev.W

/- What was written is read back: numbers, bits, packed numbers, levels, frames. -/
set_option linter.unusedVariables false
set_option linter.unusedSimpArgs false
namespace Go.Ev.W
open Go.Ev

theorem rv_var (C : List Nat) : ∀ (f i n acc : Nat), n < 128 ^ f → 1 ≤ f → rv f (varB n ++ C) i acc = some (acc + 128 ^ i * n, i + (varB n).length)
  | 0, i, n, acc, h, hf => by omega
  | f + 1, i, n, acc, h, hf => by
    by_cases hn : n < 128
    · rw [varB_lt n hn]
      show rv (f + 1) (n :: C) i acc = _
      rw [rv, if_pos hn]; rfl
    · have hd : n / 128 < 128 ^ f := by rw [Nat.div_lt_iff_lt_mul (by omega)]; rw [Nat.pow_succ] at h; exact h
      have hf1 : 1 ≤ f := by
        rcases Nat.eq_zero_or_pos f with h0 | h0
        · subst h0; rw [Nat.pow_zero] at hd; omega
        · exact h0
      rw [varB_ge n hn]
      show rv (f + 1) ((n % 128 + 128) :: (varB (n / 128) ++ C)) i acc = _
      rw [rv, if_neg (by omega), rv_var C f (i + 1) (n / 128) _ hd hf1, List.length_cons]
      have e1 : (n % 128 + 128) % 128 = n % 128 := by omega
      have e2 : acc + 128 ^ i * (n % 128) + 128 ^ (i + 1) * (n / 128) = acc + 128 ^ i * n := by
        rw [Nat.pow_succ, Nat.mul_assoc, Nat.add_assoc, ← Nat.mul_add]
        congr 2
        omega
      rw [e1, e2]
      congr 2
      omega
theorem Var_nat (n : Nat) (h : n ≤ 4294967295) : Var (n : Int) = varB n := by
  unfold Var
  rw [if_pos (by omega), Int.toNat_natCast]
theorem varB_pos (n : Nat) : 0 < (varB n).length := by
  by_cases hn : n < 128
  · rw [varB_lt n hn]; simp
  · rw [varB_ge n hn]; simp
theorem VRd_at {D C : List Nat} {a n : Nat} (hn : n ≤ 4294967295) (h : D.drop a = Var (n : Int) ++ C) : VRd D a = ((n : Int), ((a + (Var (n : Int)).length : Nat) : Int), true) := by
  have hv := Var_nat n hn
  have hp := varB_pos n
  have ha : a ≤ D.length := by
    rcases Nat.lt_or_ge D.length a with h1 | h1
    · rw [List.drop_eq_nil_of_le (by omega), hv] at h
      have := congrArg List.length h
      rw [List.length_append, List.length_nil] at this; omega
    · exact h1
  have hr := rv_var C 5 0 n 0 (by omega) (by omega)
  rw [Nat.zero_add, Nat.pow_zero, Nat.one_mul, Nat.zero_add] at hr
  unfold VRd
  rw [if_pos ⟨by omega, by omega⟩, Int.toNat_natCast, h, hv, hr]
  simp only [rvFin]
  rw [h, hv, List.take_left, if_pos rfl]
theorem lbits_bys (l : List Bool) : lbits (bys l) l.length = l := by
  refine List.ext_getElem? fun i => ?_
  by_cases hi : i < l.length
  · rw [lbits_get _ _ _ hi, List.getElem?_eq_getElem hi]
    congr 1
    unfold bbit
    rw [List.getD_eq_getElem?_getD, bys_get l (i / 8) (by omega), Option.getD_some, byt_bit, decide_eq_true (Nat.mod_lt _ (by omega)), Bool.true_and, show 8 * (i / 8) + i % 8 = i by omega, List.getD_eq_getElem?_getD, List.getElem?_eq_getElem hi]; rfl
  · rw [List.getElem?_eq_none (by rw [lbits_length]; omega), List.getElem?_eq_none (by omega)]
theorem BRd_at {D C : List Nat} {a n : Nat} {W : List Nat} (hx : ∀ x ∈ W, x < 2 ^ 64) (hv : vOk (n : Int) W = true) (h : D.drop a = bb (n : Int) W ++ C) : BRd D a = (((n : Int), ints W), ((a + (bb (n : Int) W).length : Nat) : Int), true) := by
  have hv' := hv
  simp only [vOk, Bool.and_eq_true, decide_eq_true_eq, Int.toNat_natCast] at hv'
  have ht := (okW_iff n W hx).1 hv'.2
  have hlen := bts_length n W
  have hby : (bys (bts n W)).length = (n + 7) / 8 := by rw [bys_length, hlen]
  have hbb : bb (n : Int) W = Var (n : Int) ++ bys (bts n W) := by unfold bb; rw [Int.toNat_natCast]
  rw [hbb, List.append_assoc] at h
  have hV := VRd_at (by omega) h
  have hd : D.drop (a + (Var (n : Int)).length) = bys (bts n W) ++ C := by rw [← List.drop_drop, h, List.drop_left]
  have hl : (n + 7) / 8 + (a + (Var (n : Int)).length) ≤ D.length := by
    have := congrArg List.length hd
    rw [List.length_drop, List.length_append, hby] at this
    rcases Nat.lt_or_ge ((n + 7) / 8) 1 with h0 | h0
    · have h1 := congrArg List.length h
      rw [List.length_drop, List.length_append] at h1
      have := Var_nat n (by omega)
      have := varB_pos n
      rw [← Var_nat n (by omega)] at this
      omega
    · omega
  unfold BRd
  rw [hV]
  simp only [Bool.not_true, bif_false, Int.toNat_natCast]
  rw [if_neg (by omega), if_neg (by omega)]
  unfold brFin
  simp only
  rw [hd, ← hby, List.take_left]
  have hlb := lbits_bys (bts n W)
  rw [hlen] at hlb
  rw [hlb, if_pos rfl, wrds_bts n W ht, hbb, List.length_append, hby, Nat.add_assoc]
/-- Levels are read back. -/
theorem WL_at {D C : List Nat} (N : Nat) : ∀ (M : List (Int × List Nat)) (a : Nat) (n0 : Int) (Z0 : List Int) (L0 : List (Int × List Nat)), (∀ p ∈ M, p.1 = N ∧ vOk p.1 p.2 = true ∧ ∀ x ∈ p.2, x < 2 ^ 64) → D.drop a = (M.map fun p => bb p.1 p.2).flatten ++ C →
    WL D M.length a n0 Z0 L0 = WL D 0 ((a + ((M.map fun p => bb p.1 p.2).flatten).length : Nat) : Int) (if M = [] then n0 else N) (Z0 ++ M.map fun p => ((zer (lvb p) (lvb p).length : Nat) : Int)) (L0 ++ M)
  | [], a, n0, Z0, L0, _, _ => by simp
  | p :: M, a, n0, Z0, L0, h, hd => by
    obtain ⟨q1, q2, q3⟩ := h p List.mem_cons_self
    obtain ⟨n, W⟩ := p
    simp only at q1 q2 q3
    subst q1
    rw [List.map_cons, List.flatten_cons, List.append_assoc] at hd
    have hb := BRd_at q3 q2 hd
    have hd2 : D.drop (a + (bb (N : Int) W).length) = (M.map fun p => bb p.1 p.2).flatten ++ C := by rw [← List.drop_drop, hd, List.drop_left]
    have e0 : WL D ((N, W) :: M : List (Int × List Nat)).length a n0 Z0 L0 = WL D M.length ((a + (bb (N : Int) W).length : Nat) : Int) N (Z0 ++ [((zer (lvb ((N : Int), W)) (lvb ((N : Int), W)).length : Nat) : Int)]) (L0 ++ [((N : Int), W)]) := by
      rw [List.length_cons, WL, hb]
      simp only [Bool.not_true, bif_false, toNat_ints']
    have e1 : (if M = [] then (N : Int) else N) = N := by split <;> rfl
    have e2 : (if ((N : Int), W) :: M = [] then n0 else (N : Int)) = N := if_neg (List.cons_ne_nil _ _)
    rw [e0, WL_at N M _ _ _ _ (fun p hp => h p (List.mem_cons_of_mem _ hp)) hd2, e1, e2, List.map_cons, List.map_cons, List.flatten_cons, List.length_append, List.append_assoc, List.append_assoc, Nat.add_assoc]
    rfl
end Go.Ev.W

/- Frames: what was written is read back; one byte changed is found. -/
set_option linter.unusedVariables false
set_option linter.unusedSimpArgs false
namespace Go.Ev.W
open Go.Ev

/-! #### checksums -/
theorem crcS_bit {c : Nat} (h : c < 4294967296) : (crcS c).testBit 31 = decide (c % 2 = 1) := by
  have h1 : (c / 2).testBit 31 = false := Nat.testBit_lt_two_pow (by omega)
  unfold crcS
  by_cases hc : c % 2 = 1
  · rw [if_pos hc, Nat.testBit_xor, h1, decide_eq_true hc]; decide
  · rw [if_neg hc, h1, decide_eq_false hc]
theorem xor_cancel {a b c : Nat} (h : a ^^^ c = b ^^^ c) : a = b := by
  have := congrArg (· ^^^ c) h
  simpa [Nat.xor_assoc] using this
theorem crcS_inj {a b : Nat} (ha : a < 4294967296) (hb : b < 4294967296) (h : crcS a = crcS b) : a = b := by
  have h1 := crcS_bit ha
  rw [h, crcS_bit hb] at h1
  have hp : a % 2 = b % 2 := by
    by_cases h2 : a % 2 = 1
    · rw [decide_eq_true h2, decide_eq_true_eq] at h1; omega
    · rw [decide_eq_false h2, decide_eq_false_iff_not] at h1; omega
  unfold crcS at h
  have h3 : a / 2 = b / 2 := by
    by_cases h2 : a % 2 = 1
    · rw [if_pos h2, if_pos (by omega)] at h
      exact xor_cancel h
    · rw [if_neg h2, if_neg (by omega)] at h
      exact h
  omega
theorem crcN_inj : ∀ (k : Nat) {a b : Nat}, a < 4294967296 → b < 4294967296 → crcN k a = crcN k b → a = b
  | 0, _, _, _, _, h => h
  | k + 1, _, _, ha, hb, h => crcS_inj ha hb (crcN_inj k (crcS_lt ha) (crcS_lt hb) h)
theorem crcV_cons (x : Nat) (D : List Nat) (c : Nat) : crcV (x :: D) c = crcV D (crcN 8 (c ^^^ x)) := rfl
theorem crcV_inj : ∀ (D : List Nat) {a b : Nat}, (∀ x ∈ D, x < 256) → a < 4294967296 → b < 4294967296 → crcV D a = crcV D b → a = b
  | [], _, _, _, _, _, h => h
  | x :: D, a, b, hD, ha, hb, h => by
    rw [crcV_cons, crcV_cons] at h
    have hx : x < 4294967296 := by have := hD x List.mem_cons_self; omega
    have h1 := crcV_inj D (fun y hy => hD y (List.mem_cons_of_mem _ hy)) (crcN_lt 8 (xor_lt32 ha hx)) (crcN_lt 8 (xor_lt32 hb hx)) h
    exact xor_cancel (crcN_inj 8 (xor_lt32 ha hx) (xor_lt32 hb hx) h1)
theorem crcV_set : ∀ (D : List Nat) (i z : Nat) {c : Nat}, (∀ x ∈ D, x < 256) → z < 256 → c < 4294967296 → (hi : i < D.length) → crcV (D.set i z) c = crcV D c → D[i] = z
  | x :: D, 0, z, c, hD, hz, hc, _, h => by
    have hx : x < 256 := hD x List.mem_cons_self
    rw [List.set_cons_zero, crcV_cons, crcV_cons] at h
    have h1 := crcV_inj D (fun y hy => hD y (List.mem_cons_of_mem _ hy)) (crcN_lt 8 (xor_lt32 hc (by omega))) (crcN_lt 8 (xor_lt32 hc (by omega))) h
    have h2 := crcN_inj 8 (xor_lt32 hc (by omega)) (xor_lt32 hc (by omega)) h1
    rw [Nat.xor_comm c z, Nat.xor_comm c x] at h2
    exact (xor_cancel h2).symm
  | x :: D, i + 1, z, c, hD, hz, hc, hi, h => by
    have hx : x < 256 := hD x List.mem_cons_self
    rw [List.set_cons_succ, crcV_cons, crcV_cons] at h
    have := crcV_set D i z (c := crcN 8 (c ^^^ x)) (fun y hy => hD y (List.mem_cons_of_mem _ hy)) hz (crcN_lt 8 (xor_lt32 hc (by omega))) (by simpa using hi) h
    simpa using this
theorem crc_set (D : List Nat) (i z : Nat) (hD : ∀ x ∈ D, x < 256) (hz : z < 256) (hi : i < D.length) (h : crc (D.set i z) = crc D) : D[i] = z :=
  crcV_set D i z hD hz (by omega) hi (xor_cancel h)
theorem four_len (n : Nat) : (four n).length = 4 := rfl
theorem four_inj {a b : Nat} (ha : a < 4294967296) (hb : b < 4294967296) (h : four a = four b) : a = b := by
  simp only [four, List.cons.injEq, and_true] at h
  omega
/-- One byte of a frame changed: that is no frame. -/
theorem frame_set (k k' : Nat) (hk : k < 256) (hk' : k' < 256) (B B' : List Nat) (hB : ∀ x ∈ B, x < 256) (hB' : ∀ x ∈ B', x < 256) (hl : B.length ≤ 8000) (hl' : B'.length ≤ 8000) (i z : Nat) (hz : z < 256) (hi : i < (frame k B).length) (h : (frame k B).set i z = frame k' B') : (frame k B)[i] = z := by
  have e1 : frame k B = frH k B ++ four (crc (frH k B)) := by unfold frame; rw [if_pos hl]
  have e2 : frame k' B' = frH k' B' ++ four (crc (frH k' B')) := by unfold frame; rw [if_pos hl']
  have hX := frH_bytes k B hk hB
  have hX' := frH_bytes k' B' hk' hB'
  have hlen : (frH k B).length = (frH k' B').length := by
    have := congrArg List.length h
    rw [List.length_set, e1, e2, List.length_append, List.length_append, four_len, four_len] at this
    omega
  simp only [e1] at h hi ⊢
  rw [e2] at h
  generalize frH k B = X at *
  generalize frH k' B' = X' at *
  by_cases hiX : i < X.length
  · rw [List.set_append_left _ _ hiX] at h
    obtain ⟨h1, h2⟩ := List.append_inj h (by rw [List.length_set]; exact hlen)
    have h3 := four_inj (crc_lt X hX) (crc_lt X' hX') h2
    rw [← h1] at h3
    rw [List.getElem_append_left hiX]
    exact crc_set X i z hX hz hiX h3.symm
  · rw [List.set_append_right _ _ (by omega)] at h
    obtain ⟨h1, h2⟩ := List.append_inj h hlen
    subst h1
    have hj : i - X.length < (four (crc X)).length := by rw [List.length_append] at hi; omega
    rw [List.getElem_append_right (by omega)]
    have h3 : ((four (crc X)).set (i - X.length) z)[i - X.length]'(by rw [List.length_set]; exact hj) = z := List.getElem_set_self _
    simp only [h2] at h3
    exact h3

/-! #### frames read back -/
theorem frame_back (k : Nat) (hk : k < 256) (B : List Nat) (hB : ∀ x ∈ B, x < 256) (hl : B.length ≤ 8000) : FRd (frame k B) = (((k : Int), ints B), ((frame k B).length : Int), true) := by
  have hsz := frame_size k B hl
  have hlen := frH_len k B hl
  have e1 : frame k B = [90, k] ++ Var (B.length : Int) ++ B ++ four (crc (frH k B)) := by unfold frame; rw [if_pos hl]; rfl
  have hd : (frame k B).drop 2 = Var (B.length : Int) ++ (B ++ four (crc (frH k B))) := by
    rw [e1, List.append_assoc, List.append_assoc]
    rfl
  have hV := VRd_at (D := frame k B) (a := 2) (n := B.length) (by omega) hd
  have hV' : VRd (frame k B) 2 = ((B.length : Int), ((2 + (Var (B.length : Int)).length : Nat) : Int), true) := hV
  have hg : (frame k B).getD 1 0 = k := by rw [e1]; rfl
  have ht : ((frame k B).take (2 + (Var (B.length : Int)).length + B.length)).drop (2 + (Var (B.length : Int)).length) = B := by
    have e2 : frame k B = ([90, k] ++ Var (B.length : Int)) ++ (B ++ four (crc (frH k B))) := by rw [e1, List.append_assoc]
    rw [List.drop_take, e2, show 2 + (Var (B.length : Int)).length = ([90, k] ++ Var (B.length : Int)).length by simp; omega, List.drop_left, show ([90, k] ++ Var (B.length : Int)).length + B.length - ([90, k] ++ Var (B.length : Int)).length = B.length by omega, List.take_left]
  unfold FRd
  rw [if_neg (by omega), hV']
  simp only [Int.toNat_natCast]
  rw [if_neg (by simp), if_neg (by omega)]
  unfold frFin
  rw [hg, ht, ← hsz, List.take_length, if_pos ⟨Nat.le_refl _, rfl⟩]
end Go.Ev.W

/- The law of an index and its bytes. -/
set_option linter.unusedVariables false
set_option linter.unusedSimpArgs false
namespace Go.Ev.W
open Go.Ev

def fmB (D : List Nat) (r : Nat) : List Nat := fmBody r (wLv 9 0 (bwt D)).2 (fmEnds D r)
section
variable (D : List Nat) (d1 : D.length ≤ 300) (d2 : ByteL D) (r : Nat) (r1 : 1 ≤ r) (r2 : r ≤ 64)
include d1 d2
theorem lv_fine : wOk ((bwt D).length : Int) (ints (wLv 9 0 (bwt D)).1) (wLv 9 0 (bwt D)).2 = true ∧ wList (bwt D).length (wLv 9 0 (bwt D)).2 = bwt D ∧ (wLv 9 0 (bwt D)).2.length = 9 ∧
    ∀ p ∈ (wLv 9 0 (bwt D)).2, p.1 = ((bwt D).length : Int) ∧ vOk p.1 p.2 = true ∧ ∀ x ∈ p.2, x < 2 ^ 64 := by
  have hl := bwt_len D
  have hle := bwt_le D d2
  obtain ⟨h1, h2⟩ := wave_back (bwt D) (by omega) fun x hx => by have := hle x hx; omega
  have hlen := (wLv_len 9 0 (bwt D)).2
  refine ⟨h1, h2, hlen, fun p hp => ?_⟩
  obtain ⟨_, _, _, _, w5⟩ := wOk_at h1
  have hq := h1
  simp only [wOk, Bool.and_eq_true, List.all_eq_true] at hq
  obtain ⟨i, hi, rfl⟩ := List.mem_iff_getElem.1 hp
  have hzl : (ints (wLv 9 0 (bwt D)).1).length = 9 := by rw [ints_len]; exact (wLv_len 9 0 (bwt D)).1
  have hz : i < ((wLv 9 0 (bwt D)).2.zip (ints (wLv 9 0 (bwt D)).1)).length := by rw [List.length_zip]; omega
  have := hq.2 _ (List.getElem_mem hz)
  rw [List.getElem_zip] at this
  simp only [lOk, Bool.and_eq_true, decide_eq_true_eq] at this
  exact ⟨this.1.2, this.1.1, wLv_words64 [] 9 0 (bwt D) _ hp⟩
theorem lv_short : ∀ M : List (Int × List Nat), (∀ p ∈ M, p.1 = ((bwt D).length : Int)) → ((M.map fun p => bb p.1 p.2).flatten).length ≤ M.length * 50
  | [], _ => by simp
  | p :: M, h => by
    have _ := d2
    have hl := bwt_len D
    have ih := lv_short M fun q hq => h q (List.mem_cons_of_mem _ hq)
    have hp := h p List.mem_cons_self
    have hv := Var_len p.1
    rw [List.map_cons, List.flatten_cons, List.length_append, List.length_cons, Nat.add_mul]
    have : (bb p.1 p.2).length ≤ 50 := by
      unfold bb
      rw [List.length_append, bys_length, bts_length, hp, Int.toNat_natCast]
      rw [hp] at hv
      omega
    omega
theorem fmB_short : (fmB D r).length ≤ 8000 := by
  obtain ⟨_, _, h3, h4⟩ := lv_fine D d1 d2
  have h5 := lv_short D d1 d2 _ fun p hp => (h4 p hp).1
  have h6 := fmEnds_len D r d1
  have h7 := Var_len (r : Int)
  unfold fmB fmBody
  rw [List.length_append, List.length_append]
  omega
theorem fmB_bytes : ∀ x ∈ fmB D r, x < 256 := by
  have _ := d1
  have _ := d2
  exact fmBody_bytes r _ (fmEnds D r) (fmEnds_bytes D r)
theorem fmBytes_form : impl_fmBytes (fmV D r) = some (ints (frame 1 (fmB D r))) := by
  obtain ⟨g1, g2, g3, g4⟩ := lv_fine D d1 d2
  have hs := srt_len' D
  have hw := wd_le9 (n := D.length) (by omega)
  have hsa := saL_len r (srt D)
  have hd : D.length / r ≤ D.length := Nat.div_le_self _ _
  have hM : impl_bitsBytes ((fmV D r).2.2.2.2.2.2.1, (fmV D r).2.2.2.2.2.2.2.1) = some (ints (mkBy r (srt D))) := bitsBytes_eq (mkB r (srt D)).length _ (by rw [mkB_len]; omega) (wrds_tight _)
  have hS : impl_PackBytes ((fmV D r).2.2.2.2.2.2.2.2.1, (fmV D r).2.2.2.2.2.2.2.2.2.1, (fmV D r).2.2.2.2.2.2.2.2.2.2.1, (fmV D r).2.2.2.2.2.2.2.2.2.2.2.1) = some (ints (pkB (wd D.length) (saL r (srt D)))) := implPk_eq (wd D.length) (saL r (srt D)) (pk_size (by omega) hw)
  have hI : impl_PackBytes (fmV D r).2.2.2.2.2.2.2.2.2.2.2.2 = some (ints (pkB (wd D.length) (isaL r D.length (srt D)))) := implPk_eq (wd D.length) (isaL r D.length (srt D)) (pk_size (by rw [isaL_len]; omega) hw)
  have hWi : impl_waveBytes ((fmV D r).2.2.1, (fmV D r).2.2.2.1, (fmV D r).2.2.2.2.1) = some (ints (((wLv 9 0 (bwt D)).2.map fun p => bb p.1 p.2).flatten)) := implwaveBytes_eq _ _ _ g3 (fun p hp => (g4 p hp).2.2) (fun p hp => (g4 p hp).2.1)
  have v1 := Var_len r
  have v2 := lv_short D d1 d2 _ fun p hp => (g4 p hp).1
  have v3 := fmEnds_len D r d1
  have hbb := fmB_bytes D d1 d2 r
  unfold fmEnds at v3
  simp only [List.length_append] at v3
  rw [impl_fmBytes.eq, show (fmV D r).2.1 = (r : Int) from rfl, implVarOf_eq, Option.bind_some, hWi, Option.bind_some, hM, Option.bind_some, hS, Option.bind_some]
  show ((impl_PackBytes (fmV D r).2.2.2.2.2.2.2.2.2.2.2.2).bind _) = _
  rw [hI, Option.bind_some, concat_eq _ (by simp) (by simp only [List.map_cons, List.map_nil, List.sum_cons, List.sum_nil, List.length_map]; omega), Option.bind_some]
  have e : ([ints (Var r), ints (((wLv 9 0 (bwt D)).2.map fun p => bb p.1 p.2).flatten), ints (mkBy r (srt D)), ints (pkB (wd D.length) (saL r (srt D))), ints (pkB (wd D.length) (isaL r D.length (srt D)))] : List (List Int)).flatten = ints (fmB D r) := by
    unfold fmB fmBody fmEnds
    simp only [List.flatten_cons, List.flatten_nil, List.append_nil, List.map_append, List.append_assoc]
  rw [e]
  have := implFrame_eq 1 (fmB D r) (by omega) hbb
  rw [show ((1 : Nat) : Int) = 1 from rfl] at this
  rw [this]; rfl
include r1 r2
theorem fmRead_back (hb : bT (bwt D) = (ints D, true)) : impl_FmRead (ints (frame 1 (fmB D r))) = some (fmV D r, true) := by
  have _ := r1
  obtain ⟨g1, g2, g3, g4⟩ := lv_fine D d1 d2
  have hsh := fmB_short D d1 d2 r
  have hby := fmB_bytes D d1 d2 r
  have hfl := frame_len 1 (fmB D r)
  have hfb : ByteL (frame 1 (fmB D r)) := frame_bytes 1 _ (by omega) hby
  have hl := bwt_len D
  have hle := bwt_le D d2
  have hV := VRd_at (D := fmB D r) (a := 0) (n := r) (C := ((wLv 9 0 (bwt D)).2.map fun p => bb p.1 p.2).flatten ++ fmEnds D r) (by omega) (by rw [List.drop_zero]; unfold fmB fmBody; rw [List.append_assoc])
  rw [Nat.zero_add] at hV
  have hV' : VRd (fmB D r) 0 = ((r : Int), (((Var (r : Int)).length : Nat) : Int), true) := hV
  have hdr : (fmB D r).drop (Var (r : Int)).length = ((wLv 9 0 (bwt D)).2.map fun p => bb p.1 p.2).flatten ++ fmEnds D r := by unfold fmB fmBody; rw [List.append_assoc, List.drop_left]
  have hW := WL_at (bwt D).length (wLv 9 0 (bwt D)).2 (Var (r : Int)).length 0 [] [] g4 hdr
  rw [g3, if_neg (by intro h; rw [h] at g3; simp at g3), List.nil_append, List.nil_append, WL] at hW
  have hzs : ((wLv 9 0 (bwt D)).2.map fun p => ((zer (lvb p) (lvb p).length : Nat) : Int)) = ints (wLv 9 0 (bwt D)).1 := by
    have hq := g1
    simp only [wOk, Bool.and_eq_true, List.all_eq_true] at hq
    have hzl : (ints (wLv 9 0 (bwt D)).1).length = 9 := by rw [ints_len]; exact (wLv_len 9 0 (bwt D)).1
    refine List.ext_getElem (by rw [List.length_map]; omega) fun i h1 h2 => ?_
    have hi : i < (wLv 9 0 (bwt D)).2.length := by omega
    have hz : i < ((wLv 9 0 (bwt D)).2.zip (ints (wLv 9 0 (bwt D)).1)).length := by rw [List.length_zip]; omega
    have := hq.2 _ (List.getElem_mem hz)
    rw [List.getElem_zip] at this
    simp only [lOk, Bool.and_eq_true, decide_eq_true_eq] at this
    rw [List.getElem_map]
    exact this.2
  rw [hzs, g1, bif_true] at hW
  have hW' : WRd (fmB D r) (((Var (r : Int)).length : Nat) : Int) = ((((bwt D).length : Int), ints (wLv 9 0 (bwt D)).1, LI (wLv 9 0 (bwt D)).2), (((Var (r : Int)).length + (((wLv 9 0 (bwt D)).2.map fun p => bb p.1 p.2).flatten).length : Nat) : Int), true) := hW
  have hvl : (fmB D r).length ≤ 1048576 := by omega
  have hVi := implVarRead_eq (fmB D r) hby hvl 0
  rw [hV'] at hVi
  have hWi := implWaveRead_eq (fmB D r) hby hvl (((Var (r : Int)).length : Nat) : Int)
  rw [hW'] at hWi
  have hli : impl_WaveList (((bwt D).length : Int), ints (wLv 9 0 (bwt D)).1, LI (wLv 9 0 (bwt D)).2) = some (ints (bwt D)) := by
    rw [impl_WaveList.eq]
    show (impl_Wave_read (((bwt D).length : Int), ints (wLv 9 0 (bwt D)).1, LI (wLv 9 0 (bwt D)).2)).bind _ = _
    rw [waveRead_eq _ _ _ (fun p hp => by rw [wLv_words 9 0 (bwt D) p hp]; unfold nw; omega) (wLv_words64 [] 9 0 (bwt D)), g1, Option.bind_some, bif_true, Int.toNat_natCast]
    exact congrArg (fun x => some (ints x)) g2
  have ht := implBwtText_eq (bwt D) (by omega) hle
  rw [hb] at ht
  have hfi := implFm_eq D d1 d2 r (by omega) r2
  have hfr := fmBytes_form D d1 d2 r
  have heq := equalB_eq (frame 1 (fmB D r)) (frame 1 (fmB D r)) hfb hfb
  rw [decide_eq_true rfl] at heq
  rw [impl_FmRead.eq, impl_frameOnly.eq, implFrameRead_eq _ hfb (by omega), frame_back 1 (by omega) _ hby hsh, Option.bind_some]
  simp only [ints_len, beq_self_eq_true, bif_true, Option.bind_some]
  rw [hVi, Option.bind_some, implRate_eq, Option.bind_some, impl_FmRead_l0.eq]
  simp only [Bool.not_true, bif_false, decide_eq_true (show (1 : Int) ≤ (r : Int) by omega), decide_eq_true (show (r : Int) ≤ 64 by omega), Bool.and_true, Int.ofNat_eq_natCast]
  rw [show (((1 : Nat) : Int) == 1) = true from rfl, Bool.not_true, bif_false, hWi, Option.bind_some]
  simp only [Bool.not_true, bif_false]
  rw [hli, Option.bind_some, ht, Option.bind_some]
  simp only [Bool.not_true, bif_false]
  rw [hfi, Option.bind_some, hfr, Option.bind_some, heq, Option.bind_some]
  rfl
end
/-- What reading an index comes to: nothing, or these are an index's bytes. -/
theorem fmRd_frame (E : List Nat) (hE : ByteL E) (hl : E.length ≤ 1048576) : ∃ (G : FmT) (v : Bool), impl_FmRead (ints E) = some (G, v) ∧ (v = true → ∃ (D : List Nat) (r : Nat), D.length ≤ 300 ∧ ByteL D ∧ E = frame 1 (fmB D r)) := by
  have bad : ∀ i : Option (FmT × Bool), i = some (fmZ, false) → ∃ (G : FmT) (v : Bool), i = some (G, v) ∧ (v = true → ∃ (D : List Nat) (r : Nat), D.length ≤ 300 ∧ ByteL D ∧ E = frame 1 (fmB D r)) :=
    fun i h => ⟨fmZ, false, h, fun h => by cases h⟩
  rw [impl_FmRead.eq, impl_frameOnly.eq, implFrameRead_eq E hE hl, Option.bind_some, ints_len]
  have hv0 := implVarRead_eq [] (by intro x hx; cases hx) (by simp) 0
  rw [show ints [] = ([] : List Int) from rfl] at hv0
  obtain ⟨F, hF⟩ : ∃ F, F = FRd E := ⟨_, rfl⟩
  rw [← hF]
  have hBF : ∃ B : List Nat, F.1.2 = ints B ∧ ByteL B ∧ B.length ≤ 1048576 := by
    rw [hF]
    unfold FRd
    have none : ∃ B : List Nat, (badF : FrT).1.2 = ints B ∧ ByteL B ∧ B.length ≤ 1048576 := ⟨[], rfl, (fun x hx => by cases hx), by simp⟩
    split
    · exact none
    · split
      · exact none
      · split
        · exact none
        · unfold frFin
          split
          · exact ⟨_, rfl, fun x hx => hE x (List.mem_of_mem_take (List.mem_of_mem_drop hx)), by rw [List.length_drop, List.length_take]; omega⟩
          · exact none
  obtain ⟨B, b1, b2, b3⟩ := hBF
  have hvB := implVarRead_eq B b2 b3 0
  have out : ∀ q : Bool, q = false → ∃ (G : FmT) (v : Bool), ((some (F.1.2, q)).bind fun y1 : List Int × Bool => (impl_VarRead y1.1 0).bind fun y2 => bif !y1.2 then some (fmZ, false) else bif !y2.2.2 then some (fmZ, false) else (impl_isRate y2.1).bind fun y3 => bif !y3 then some (fmZ, false) else impl_FmRead_l0 (ints E) y2.1 y2.2.1 0 0 0 0 0 0 0 0 0 0 [] [] [] [] [] [] y1.1) = some (G, v) ∧ (v = true → ∃ (D : List Nat) (r : Nat), D.length ≤ 300 ∧ ByteL D ∧ E = frame 1 (fmB D r)) := by
    intro q hq
    subst hq
    refine bad _ ?_
    rw [Option.bind_some]
    simp only [b1]
    rw [hvB, Option.bind_some]; rfl
  cases h1 : F.2.2 with
  | false => exact out false rfl
  | true =>
    rw [bif_true]
    by_cases h2 : F.2.1 = (E.length : Int)
    · rw [bif_eq h2]
      by_cases h3 : F.1.1 = 1
      · rw [Option.bind_some, h3]
        simp only [b1, beq_self_eq_true, Bool.not_true, bif_false]
        rw [hvB, Option.bind_some]
        cases h4 : (VRd B 0).2.2 with
        | false => exact bad _ rfl
        | true =>
          rw [Bool.not_true, bif_false, implRate_eq, Option.bind_some]
          obtain ⟨r, hr⟩ : ∃ r, r = (VRd B 0).1 := ⟨_, rfl⟩
          rw [← hr]
          by_cases hrr : 1 ≤ r ∧ r ≤ 64
          rotate_left
          · have hd : (decide (1 ≤ r) && decide (r ≤ 64)) = false := by rw [Bool.and_eq_false_iff, decide_eq_false_iff_not, decide_eq_false_iff_not]; omega
            rw [hd]; exact bad _ rfl
          rw [decide_eq_true hrr.1, decide_eq_true hrr.2, Bool.and_true, Bool.not_true, bif_false, impl_FmRead_l0.eq, implWaveRead_eq B b2 b3, Option.bind_some]
          obtain ⟨Q, hQ⟩ : ∃ Q, Q = WRd B (VRd B 0).2.1 := ⟨_, rfl⟩
          rw [← hQ]
          cases hq2 : Q.2.2 with
          | false => exact bad _ rfl
          | true =>
            rw [Bool.not_true, bif_false]
            have hWv : ∃ L, Q.1.2.2 = LI L ∧ (∀ p ∈ L, p.2.length ≤ 1048576) ∧ (∀ p ∈ L, ∀ x ∈ p.2, x < 2 ^ 64) := by
              have hg : ∀ (d : Nat) (a n : Int) (Z : List Int) (L : List (Int × List Nat)), (∀ p ∈ L, p.2.length ≤ 100) → (∀ p ∈ L, ∀ x ∈ p.2, x < 2 ^ 64) → ∃ M, (WL B d a n Z L).1.2.2 = LI M ∧ (∀ p ∈ M, p.2.length ≤ 1048576) ∧ (∀ p ∈ M, ∀ x ∈ p.2, x < 2 ^ 64) := by
                intro d
                induction d with
                | zero =>
                  intro a n Z L g1 g2
                  rw [WL]
                  cases wOk n Z L with
                  | false => exact ⟨[], rfl, by simp, by simp⟩
                  | true => exact ⟨L, rfl, fun p hp => by have := g1 p hp; omega, g2⟩
                | succ d ih =>
                  intro a n Z L g1 g2
                  rw [WL]
                  cases hb : (BRd B a).2.2 with
                  | false => exact ⟨[], rfl, by simp, by simp⟩
                  | true =>
                    obtain ⟨m, W, e1, e2, e3, e4⟩ := BRd_ok hb
                    rw [Bool.not_true, bif_false]
                    refine ih _ _ _ _ (fun p hp => ?_) (fun p hp => ?_)
                    · rcases List.mem_append.1 hp with hp | hp
                      · exact g1 p hp
                      · rw [List.mem_singleton.1 hp]
                        simp only [e1, toNat_ints']; exact e3
                    · rcases List.mem_append.1 hp with hp | hp
                      · exact g2 p hp
                      · rw [List.mem_singleton.1 hp]
                        simp only [e1, toNat_ints']; exact e4.2.1
              rw [hQ]; exact hg 9 _ _ _ _ (by simp) (by simp)
            obtain ⟨L, l1, l2, l3⟩ := hWv
            have hli : impl_WaveList (Q.1.1, Q.1.2.1, LI L) = some (bif wOk Q.1.1 Q.1.2.1 L then ints (wList Q.1.1.toNat L) else []) := by
              rw [impl_WaveList.eq]
              show (impl_Wave_read (Q.1.1, Q.1.2.1, LI L)).bind _ = _
              rw [waveRead_eq _ _ L l2 l3, Option.bind_some]
              cases wOk Q.1.1 Q.1.2.1 L <;> rfl
            rw [← l1] at hli
            have hli' : impl_WaveList Q.1 = _ := hli
            rw [hli', Option.bind_some]
            obtain ⟨X, hX⟩ : ∃ X : List Nat, X = bif wOk Q.1.1 Q.1.2.1 L then wList Q.1.1.toNat L else [] := ⟨_, rfl⟩
            have hXi : (bif wOk Q.1.1 Q.1.2.1 L then ints (wList Q.1.1.toNat L) else []) = ints X := by
              rw [hX]; cases wOk Q.1.1 Q.1.2.1 L <;> rfl
            have hXl : X.length ≤ 1000 := by
              rw [hX]
              cases hw : wOk Q.1.1 Q.1.2.1 L with
              | false => simp
              | true => rw [bif_true, wList_len]; have := wOk_at hw; omega
            rw [hXi]
            cases hs : sOk (ints X) with
            | false => rw [implText_short _ (by rw [ints_len]; omega) hs]; exact bad _ rfl
            | true =>
              have hXs := hs
              simp only [sOk, Bool.and_eq_true, decide_eq_true_eq, List.all_eq_true] at hXs
              rw [ints_len] at hXs
              have hXx : ∀ y ∈ X, y ≤ 256 := by
                intro y hy
                have := hXs.2 (y : Int) (List.mem_map.2 ⟨y, hy, rfl⟩)
                omega
              rw [implBwtText_eq X hXs.1 hXx, Option.bind_some]
              cases hbt : (bT X).2 with
              | false => exact bad _ rfl
              | true =>
                obtain ⟨D, e1, e2, e3, e4⟩ := bT_true X hXs.1 hXx hbt
                rw [e1]
                simp only [Bool.not_true, bif_false]
                obtain ⟨m, hm⟩ : ∃ m : Nat, r = m := ⟨r.toNat, by omega⟩
                rw [hm, implFm_eq D e3 e4 m (by omega) (by omega), Option.bind_some, fmBytes_form D e3 e4 m, Option.bind_some, equalB_eq _ _ (frame_bytes 1 _ (by omega) (fmB_bytes D e3 e4 m)) hE, Option.bind_some]
                by_cases hc : frame 1 (fmB D m) = E
                · rw [decide_eq_true hc]
                  exact ⟨_, true, rfl, fun _ => ⟨D, m, e3, e4, hc.symm⟩⟩
                · rw [decide_eq_false hc]
                  exact bad _ rfl
      · exact out _ (by rw [beq_dec, decide_eq_false h3])
    · rw [bif_neq h2]
      exact out false rfl
theorem lpickD_ok (code : List Int) (hc : Bytes code) (at_ n : Int) (ha : 0 ≤ at_) (ha2 : at_ ≤ 1000) (hn : 1 ≤ n) : ∃ x, laws_pick code at_ n = some x ∧ 0 ≤ x ∧ x < n := by
  rw [laws_pick.eq]
  by_cases h0 : (code.length : Int) = 0
  · rw [bif_eq h0]; exact ⟨0, rfl, by omega, by omega⟩
  rw [bif_neq h0]
  by_cases h1 : n < 2
  · rw [bif_dec h1]; exact ⟨0, rfl, by omega, by omega⟩
  rw [bif_ndec h1, laws_pick_l0.eq]
  have step : ∀ (i x : Int), 0 ≤ i → i < 3 → 0 ≤ x → x ≤ 10000000 → ∃ y, laws_pick_l1 code at_ n x i = laws_pick_l1 code at_ n y (i + 1) ∧ 0 ≤ y ∧ y ≤ 31 * x + 255 := by
    intro i x hi hi3 hx hx2
    have hm := tmod_range (at_ + i) code.length (by omega) (by omega)
    rw [laws_pick_l1.eq, bif_dec hi3, bif_ndec h0, wrapI (x := at_ + i) (by omega) (by omega), wrapI (x := i + 1) (by omega) (by omega)]
    obtain ⟨y, y1, _, y3⟩ := pick_list code ((at_ + i).tmod code.length) hm.1 hm.2
    have hb := hc.2 y y3
    rw [y1, Option.bind_some, wrapI (x := 31 * x) (by omega) (by omega), wrapI (x := y) (by omega) (by omega), wrapI (x := 31 * x + y) (by omega) (by omega)]
    exact ⟨31 * x + y, rfl, by omega, by omega⟩
  obtain ⟨y1, e1, p1, q1⟩ := step 0 0 (by omega) (by omega) (by omega) (by omega)
  obtain ⟨y2, e2, p2, q2⟩ := step 1 y1 (by omega) (by omega) (by omega) (by omega)
  obtain ⟨y3, e3, p3, q3⟩ := step 2 y2 (by omega) (by omega) (by omega) (by omega)
  rw [e1, show (0 : Int) + 1 = 1 by rfl, e2, show (1 : Int) + 1 = 2 by rfl, e3, show (2 : Int) + 1 = 3 by rfl, laws_pick_l1.eq, bif_ndec (by omega), bif_ndec (by omega), wrapI (by omega) (by omega)]
  have := tmod_range (y3 + at_) n (by omega) (by omega)
  exact ⟨_, rfl, this⟩
theorem law_FnFmBytes (xs : List Int) (hx : goodA tab laws_FnFmBytes.as xs) : laws_FnFmBytes.fn xs = some true := by
  show laws_FnFmBytes xs = some true
  rw [laws_FnFmBytes.eq, bigD_eq, Option.bind_some]
  by_cases h : (xs.length : Int) > 1048576
  · rw [bif_dec h]
  rw [bif_ndec h]
  have hcode := codeD_bytes hx h
  obtain ⟨c, e0, g0⟩ := open_ok xs hcode
  obtain ⟨f, c1, e1, g1, hsm, hw⟩ := fm_ok g0 (by omega)
  have ed : spec_DrawFmBytes xs = some f := by
    rw [spec_DrawFmBytes.eq]
    simp only [e0, Option.bind_some, e1]
  obtain ⟨v, D, t, h1, h2, h3⟩ := fmRead_eq f hsm hw
  have ho1 : spec_FmOk f = some v := by
    rw [spec_FmOk.eq]
    show (spec_l09Text f).bind _ = _
    rw [h1]; cases v <;> rfl
  have ho2 : impl_FmOk f = some v := by
    rw [impl_FmOk.eq]
    show (impl_Fm_read f).bind _ = _
    rw [h2]; rfl
  rw [ed, Option.bind_some, Option.bind_some, impl_FmBytes.eq]
  show ((impl_FmOk f).bind _).bind _ = _
  rw [ho2, Option.bind_some]
  cases v with
  | false =>
    rw [Bool.not_false, bif_true, Option.bind_some, ho1]; rfl
  | true =>
    obtain ⟨⟨d1, d2, d3, d4, d5⟩, _, hb⟩ := h3 rfl
    obtain ⟨r, hr⟩ : ∃ r : Nat, f.2.1 = r := ⟨f.2.1.toNat, by omega⟩
    rw [hr, Int.toNat_natCast] at d5
    subst d5
    have hform := fmBytes_form D d1 d2 r
    have hback := fmRead_back D d1 d2 r (by omega) (by omega) hb
    have hshort := fmB_short D d1 d2 r
    have hbytes := fmB_bytes D d1 d2 r
    have hfl := frame_len 1 (fmB D r)
    have hfs := frame_size 1 (fmB D r) hshort
    have hfb : ByteL (frame 1 (fmB D r)) := frame_bytes 1 _ (by omega) hbytes
    have hT : spec_FmText (fmV D r) = some (ints D) := by
      rw [spec_FmText.eq]
      show (spec_l09Text (fmV D r)).bind _ = _
      rw [h1]; rfl
    rw [Bool.not_true, bif_false, hform, Option.bind_some, Option.bind_some, ho1, Option.bind_some, Bool.not_true, bif_false, laws_bytesOf.eq, ints_len, bif_dec (by simp only [List.length_nil]; omega), List.nil_append, Option.bind_some, hback, Option.bind_some]
    simp only [Bool.not_true, bif_false, hT, Option.bind_some]
    rw [beq_self_eq_true, Bool.not_true, bif_false, bif_nne rfl, bif_neq (by omega), laws_FnFmBytes_l0.eq, ints_len]
    obtain ⟨i, i1, i2, i3⟩ := lpickD_ok xs hcode 3 (frame 1 (fmB D r)).length (by omega) (by omega) (by omega)
    obtain ⟨q, q1, q2, q3⟩ := lpickD_ok xs hcode 4 255 (by omega) (by omega) (by omega)
    obtain ⟨j, rfl⟩ : ∃ j : Nat, i = j := ⟨i.toNat, by omega⟩
    obtain ⟨p, rfl⟩ : ∃ p : Nat, q = p := ⟨q.toNat, by omega⟩
    have hj : j < (frame 1 (fmB D r)).length := by omega
    have hx := hfb _ (List.getElem_mem hj)
    rw [i1, Option.bind_some, at?_ints _ j hj, Option.bind_some, Int.toNat_natCast, getElem?_ints _ j hj, Option.bind_some, q1, Option.bind_some, Option.bind_some, Option.bind_some]
    have hz : IntKind.u8.wrap ((((frame 1 (fmB D r))[j] : Nat) : Int) + IntKind.u8.wrap (IntKind.i64.wrap (1 + (p : Int)))) = ((((frame 1 (fmB D r))[j] + (1 + p)) % 256 : Nat) : Int) := by
      rw [wrapI (x := 1 + (p : Int)) (by omega) (by omega), wrapB (x := 1 + (p : Int)) (by omega) (by omega)]
      have := byte_wrap ((frame 1 (fmB D r))[j] + (1 + p))
      rw [← this]; congr 1
    have hset : (ints (frame 1 (fmB D r))).set j ((((frame 1 (fmB D r))[j] + (1 + p)) % 256 : Nat) : Int) = ints ((frame 1 (fmB D r)).set j (((frame 1 (fmB D r))[j] + (1 + p)) % 256)) := ints_set _ _ _
    rw [hz, hset]
    have hEb : ByteL ((frame 1 (fmB D r)).set j (((frame 1 (fmB D r))[j] + (1 + p)) % 256)) := by
      intro x hx
      rcases List.mem_or_eq_of_mem_set hx with hx | hx
      · exact hfb x hx
      · rw [hx]; omega
    obtain ⟨G, v, k1, k2⟩ := fmRd_frame _ hEb (by rw [List.length_set]; omega)
    rw [k1, Option.bind_some]
    cases v with
    | false => rfl
    | true =>
      obtain ⟨D', r', u1, u2, u3⟩ := k2 rfl
      have := frame_set 1 1 (by omega) (by omega) (fmB D r) (fmB D' r') hbytes (fmB_bytes D' u1 u2 r') hshort (fmB_short D' u1 u2 r') j _ (by omega) hj u3
      omega
end Go.Ev.W
