/- Small whole numbers are exact. -/
import Derived.Test.YtajipgcnpemifaaW
namespace Go.Proofs.Ytajipgcnpemifaa
open Ieee

/-- The number of an integer. -/
def flo (n : Int) : Nat := double.nearest (decide (n < 0)) n.natAbs 0

theorem log2_bounds (m : Nat) (hm : m ≠ 0) (h : m < 9007199254740992) : m.log2 ≤ 52 ∧ 4503599627370496 ≤ m * 2 ^ (52 - m.log2) ∧ m * 2 ^ (52 - m.log2) < 9007199254740992 := by
  have a : 2 ^ m.log2 ≤ m := Nat.log2_self_le hm
  have b : m < 2 ^ (m.log2 + 1) := Nat.lt_log2_self
  have c : m.log2 < 53 := (Nat.log2_lt hm).2 (by have : (2 : Nat) ^ 53 = 9007199254740992 := by decide
                                                 omega)
  have hp : 0 < 2 ^ (52 - m.log2) := Nat.two_pow_pos _
  refine ⟨by omega, ?_, ?_⟩
  · have := Nat.mul_le_mul_right (2 ^ (52 - m.log2)) a
    rw [← Nat.pow_add, show m.log2 + (52 - m.log2) = 52 by omega] at this
    have e : (2 : Nat) ^ 52 = 4503599627370496 := by decide
    omega
  · have := Nat.mul_lt_mul_of_pos_right b hp
    rw [← Nat.pow_add, show m.log2 + 1 + (52 - m.log2) = 53 by omega] at this
    have e : (2 : Nat) ^ 53 = 9007199254740992 := by decide
    omega

/-- The rung of a small natural number. -/
def rung (m : Nat) : Nat := if m = 0 then 0 else (m.log2 + 1022) * 4503599627370496 + m * 2 ^ (52 - m.log2)

theorem nearest_small (s : Bool) (m : Nat) (h : m < 9007199254740992) : double.nearest s m 0 = double.word s (rung m) := by
  by_cases hm : m = 0
  · subst hm; simp [Format.nearest, rung]
  · obtain ⟨h1, h2, h3⟩ := log2_bounds m hm h
    unfold rung Format.nearest
    rw [if_neg hm, if_neg hm]
    simp only [double_least, double_frac, double_binade, double_inf]
    rw [show (max ((0 : Int) + (m.log2 : Int) - ((52 : Nat) : Int)) (-1074)) = (m.log2 : Int) - 52 by omega]
    rw [show ((m.log2 : Int) - 52 - -1074).toNat = m.log2 + 1022 by omega]
    rw [show ((0 : Int) - ((m.log2 : Int) - 52)).toNat = 52 - m.log2 by omega]
    rw [show ((m.log2 : Int) - 52 - 0).toNat = 0 by omega]
    rw [cut_none, Nat.shiftLeft_eq, Nat.min_eq_left (by omega)]

theorem rung_lt (m : Nat) (h : m < 9007199254740992) : rung m < 9218868437227405312 := by
  unfold rung
  by_cases hm : m = 0
  · rw [if_pos hm]; omega
  · obtain ⟨h1, h2, h3⟩ := log2_bounds m hm h
    rw [if_neg hm]; omega

def pow2 (k : Nat) : Nat := 2 ^ k
theorem pow2_pos (k : Nat) : 0 < pow2 k := Nat.two_pow_pos k
theorem nearest_pow2 (s : Bool) (x k : Nat) (p : Int) : double.nearest s (x * pow2 k) (p - k) = double.nearest s x p := nearest_scale s x k p
theorem rnd_pow2 (s : Bool) (x k : Nat) (hk : (0 : Int) + 1074 = k) : double.nearest s x 0 = double.word s (rnd (x * pow2 k)) := by
  have := nearest_units s x 0 (by decide)
  rw [hk, Int.toNat_natCast] at this
  exact this
/-- One in least units. -/
def unit1 : Nat := pow2 1074
theorem unit1_pos : 0 < unit1 := pow2_pos _
theorem unit1_of (a b : Nat) (h : a + b = 1074) : 2 ^ a * 2 ^ b = unit1 := by
  show _ = pow2 1074
  rw [← h]; exact (Nat.pow_add 2 a b).symm
theorem nearest_unit (s : Bool) (x : Nat) (p : Int) : double.nearest s (x * unit1) (p - 1074) = double.nearest s x p := nearest_pow2 s x 1074 p
theorem nearest_rnd (s : Bool) (x : Nat) : double.nearest s x 0 = double.word s (rnd (x * unit1)) := rnd_pow2 s x 1074 (by decide)

theorem uval_rung (m : Nat) (h : m < 9007199254740992) : uval (rung m) = m * unit1 := by
  unfold rung
  by_cases hm : m = 0
  · rw [if_pos hm, hm, Nat.zero_mul]; exact uval_zero
  · obtain ⟨h1, h2, h3⟩ := log2_bounds m hm h
    rw [if_neg hm]
    unfold uval
    rw [if_neg (by omega)]
    obtain ⟨M, hM⟩ : ∃ M, M = m * 2 ^ (52 - m.log2) := ⟨_, rfl⟩
    rw [← hM] at h2 h3 ⊢
    rw [show ((m.log2 + 1022) * 4503599627370496 + M) % 4503599627370496 = M - 4503599627370496 by omega,
      show ((m.log2 + 1022) * 4503599627370496 + M) / 4503599627370496 - 1 = m.log2 + 1022 by omega,
      show 4503599627370496 + (M - 4503599627370496) = M by omega, hM, Nat.mul_assoc, unit1_of _ _ (by omega)]

theorem read_small (s : Bool) (m : Nat) (hm : m ≠ 0) (h : m < 9007199254740992) :
    double.read (double.nearest s m 0) = .number s (m * 2 ^ (52 - m.log2)) ((m.log2 : Int) - 52) := by
  obtain ⟨h1, h2, h3⟩ := log2_bounds m hm h
  have hr := rung_lt m h
  rw [nearest_small s m h]
  have hn := negq_eq (double.word s (rung m)) (word_small s _ (by omega))
  rw [word_neg s _ (by omega)] at hn
  have hw := word_rung s (rung m) (by omega)
  unfold Format.read
  simp only [hn]
  simp only [double_sign, double_binade, double_inf, double_least]
  rw [hw]
  have e : rung m = (m.log2 + 1022) * 4503599627370496 + m * 2 ^ (52 - m.log2) := by unfold rung; rw [if_neg hm]
  obtain ⟨M, hM⟩ : ∃ M, M = m * 2 ^ (52 - m.log2) := ⟨_, rfl⟩
  rw [← hM] at h2 h3 e ⊢
  rw [if_neg (by omega), if_pos hr]
  rw [show 4503599627370496 + rung m % 4503599627370496 = M by omega]
  congr 1
  omega

theorem flo_word (n : Int) (h : n.natAbs < 9007199254740992) : flo n = double.word (decide (n < 0)) (rung n.natAbs) := nearest_small _ _ h

theorem flo_facts (n : Int) (h : n.natAbs < 9007199254740992) : flo n < 2 ^ 64 ∧ finq (flo n) = true ∧ nanq (flo n) = false ∧ negq (flo n) = decide (n < 0) ∧ flo n % 9223372036854775808 = rung n.natAbs ∧ units (flo n) = n * (unit1 : Int) := by
  have hr := rung_lt _ h
  have hu := uval_rung _ h
  rw [flo_word n h]
  refine ⟨word_small _ _ (by omega), word_fin _ _ hr, word_nan _ _ (by omega), word_neg _ _ (by omega), word_rung _ _ (by omega), ?_⟩
  unfold units
  rw [word_neg _ _ (by omega), word_rung _ _ (by omega), hu]
  generalize unit1 = T
  unfold sval
  by_cases c : n < 0
  · rw [decide_eq_true c, if_pos rfl]
    rw [Int.natCast_mul, ← Int.neg_mul]
    congr 1
    omega
  · rw [decide_eq_false c, if_neg (by decide)]
    rw [Int.natCast_mul]
    congr 1
    omega

theorem flo_add (m n : Int) (hm : m.natAbs < 9007199254740992) (hn : n.natAbs < 9007199254740992) : dob 2 (flo m) (flo n) = flo (m + n) := by
  obtain ⟨a1, a2, a3, a4, a5, a6⟩ := flo_facts m hm
  obtain ⟨b1, b2, b3, b4, b5, b6⟩ := flo_facts n hn
  refine fop_some ?_
  rw [bits_add, add_fin _ _ a1 b1 a2 b2, a6, b6, ← Int.add_mul, a4, b4]
  congr 1
  show _ = double.nearest (decide (m + n < 0)) (m + n).natAbs 0
  rw [nearest_rnd]
  rw [natAbs_scale (m + n) _ unit1 rfl]
  congr 1
  have hT : (0 : Int) < (unit1 : Int) := by have := unit1_pos; omega
  generalize (unit1 : Int) = T at hT
  by_cases c : m + n = 0
  · rw [c, Int.zero_mul, if_pos rfl]
    by_cases d : m < 0
    · rw [decide_eq_false (show ¬ n < 0 by omega), Bool.and_false]; rfl
    · rw [decide_eq_false d]; rfl
  · have hne : (m + n) * T ≠ 0 := fun h => by
      rcases Int.mul_eq_zero.1 h with h | h <;> omega
    rw [if_neg hne]
    refine decide_eq_decide.2 ⟨fun h => ?_, fun h => ?_⟩
    · by_cases d : m + n < 0
      · exact d
      · have := Int.mul_nonneg (show 0 ≤ m + n by omega) (Int.le_of_lt hT)
        omega
    · have := Int.mul_lt_mul_of_pos_right h hT
      rw [Int.zero_mul] at this
      exact this

theorem flo_neg (n : Int) (h : n.natAbs < 9007199254740992) (h0 : n ≠ 0) : turned (flo n) = flo (-n) := by
  unfold flo
  rw [← nearest_turned, show (-n).natAbs = n.natAbs by omega]
  congr 1
  by_cases c : n < 0
  · rw [decide_eq_true c, decide_eq_false (by omega)]; rfl
  · rw [decide_eq_false c, decide_eq_true (by omega)]; rfl

theorem flo_zero : flo 0 = 0 := by decide

theorem flo_sub (m n : Int) (hm : m.natAbs < 9007199254740992) (hn : n.natAbs < 9007199254740992) : dob 3 (flo m) (flo n) = flo (m - n) := by
  obtain ⟨a1, a2, a3, a4, a5, a6⟩ := flo_facts m hm
  obtain ⟨b1, b2, b3, b4, b5, b6⟩ := flo_facts n hn
  by_cases h0 : n = 0
  · subst h0
    refine fop_some ?_
    rw [bits_sub, sub_eq _ _ b1, flo_zero, show turned 0 = 9223372036854775808 from rfl, add_zero _ _ a1 (.inr rfl) a3, if_neg (by omega), Int.sub_zero]
  · have := flo_add m (-n) hm (by omega)
    rw [← flo_neg n hn h0] at this
    rw [show m - n = m + -n by omega, ← this]
    show fop .sub _ _ = fop .add _ _
    unfold fop
    rw [bits_sub, bits_add, sub_eq _ _ b1]

theorem flo_product (m n : Int) (hm : m.natAbs < 9007199254740992) (hn : n.natAbs < 9007199254740992) :
    dob 4 (flo m) (flo n) = double.nearest (decide (m < 0) ^^ decide (n < 0)) (m.natAbs * n.natAbs) 0 := by
  obtain ⟨a1, a2, a3, a4, a5, a6⟩ := flo_facts m hm
  obtain ⟨b1, b2, b3, b4, b5, b6⟩ := flo_facts n hn
  obtain ⟨M, k, e1, u1⟩ := read_fin _ a1 a2
  obtain ⟨N, j, e2, u2⟩ := read_fin _ b1 b2
  rw [a5, uval_rung _ hm] at u1
  rw [b5, uval_rung _ hn] at u2
  refine fop_some ?_
  rw [bits_mul]
  unfold Format.mul
  rw [e1, e2, a4, b4]
  show some (double.nearest _ (M * N) (-1074 + (k : Int) + (-1074 + (j : Int)))) = _
  congr 1
  rw [← nearest_scale _ (M * N) (k + j)]
  rw [show (-1074 + (k : Int) + (-1074 + (j : Int)) - ((k + j : Nat) : Int)) = (0 : Int) - 1074 - 1074 by omega]
  have e : M * N * 2 ^ (k + j) = m.natAbs * n.natAbs * unit1 * unit1 := by
    rw [Nat.pow_add, show M * N * (2 ^ k * 2 ^ j) = (M * 2 ^ k) * (N * 2 ^ j) by
      rw [Nat.mul_assoc, Nat.mul_assoc]; congr 1; rw [← Nat.mul_assoc, ← Nat.mul_assoc, Nat.mul_comm N], u1, u2]
    generalize unit1 = T
    rw [Nat.mul_assoc, Nat.mul_assoc, Nat.mul_assoc]; congr 1; rw [← Nat.mul_assoc, Nat.mul_comm T, Nat.mul_assoc]
  rw [e, nearest_unit, nearest_unit]

theorem srung_flo (n : Int) (h : n.natAbs < 9007199254740992) : srung (flo n) = sval (decide (n < 0)) (rung n.natAbs) := by
  obtain ⟨a1, a2, a3, a4, a5, a6⟩ := flo_facts n h
  rw [srung_eq, a4, a5]

/-- Equal by the order of numbers. -/
def eqf (x y : Nat) : Prop := double.order x y = some .eq

theorem eqf_refl (x : Nat) (hx : x < 2 ^ 64) (h : nanq x = false) : eqf x x := by unfold eqf; rw [order_any x x hx hx h h, cmp_refl]
theorem eqf_zero (s t : Bool) : eqf (double.word s 0) (double.word t 0) := by
  unfold eqf
  cases s <;> cases t <;> decide

theorem flo_mul (m n : Int) (hm : m.natAbs < 9007199254740992) (hn : n.natAbs < 9007199254740992) (hmn : (m * n).natAbs < 9007199254740992) : eqf (dob 4 (flo m) (flo n)) (flo (m * n)) := by
  rw [flo_product m n hm hn, ← Int.natAbs_mul]
  by_cases h0 : m * n = 0
  · rw [h0, nearest_small _ _ (by decide), flo_word 0 (by decide)]
    exact eqf_zero _ _
  · have e : (decide (m < 0) ^^ decide (n < 0)) = decide (m * n < 0) := by
      have m0 : m ≠ 0 := fun h => h0 (by rw [h, Int.zero_mul])
      have n0 : n ≠ 0 := fun h => h0 (by rw [h, Int.mul_zero])
      by_cases c : m < 0 <;> by_cases d : n < 0
      · rw [decide_eq_true c, decide_eq_true d, decide_eq_false]; rfl
        have := Int.mul_pos_of_neg_of_neg c d; omega
      · rw [decide_eq_true c, decide_eq_false d, decide_eq_true]; rfl
        exact Int.mul_neg_of_neg_of_pos c (by omega)
      · rw [decide_eq_false c, decide_eq_true d, decide_eq_true]; rfl
        exact Int.mul_neg_of_pos_of_neg (by omega) d
      · rw [decide_eq_false c, decide_eq_false d, decide_eq_false]; rfl
        have := Int.mul_pos (show 0 < m by omega) (show 0 < n by omega); omega
    rw [e]
    obtain ⟨a1, a2, a3, a4, a5, a6⟩ := flo_facts _ hmn
    exact eqf_refl _ a1 a3

theorem rung_mono (m n : Nat) (hm : m < 9007199254740992) (hn : n < 9007199254740992) : rung m < rung n ↔ m < n := by
  rw [← uval_lt_iff, uval_rung m hm, uval_rung n hn]
  exact Nat.mul_lt_mul_right unit1_pos

theorem plc_flo (m n : Int) (hm : m.natAbs < 9007199254740992) (hn : n.natAbs < 9007199254740992) : plc (flo m) < plc (flo n) ↔ m < n := by
  obtain ⟨a1, a2, a3, a4, a5, a6⟩ := flo_facts m hm
  obtain ⟨b1, b2, b3, b4, b5, b6⟩ := flo_facts n hn
  have h1 := rung_mono _ _ hm hn
  have h2 := rung_mono _ _ hn hm
  unfold plc
  rw [a4, a5, b4, b5]
  by_cases c : m < 0 <;> by_cases d : n < 0
  · rw [decide_eq_true c, decide_eq_true d]; simp; omega
  · rw [decide_eq_true c, decide_eq_false d]; simp; omega
  · rw [decide_eq_false c, decide_eq_true d]; simp; omega
  · rw [decide_eq_false c, decide_eq_false d]; simp; omega

theorem flo_min (m n : Int) (hm : m.natAbs < 9007199254740992) (hn : n.natAbs < 9007199254740992) : dob 6 (flo m) (flo n) = flo (if n < m then n else m) := by
  obtain ⟨a1, a2, a3, a4, a5, a6⟩ := flo_facts m hm
  obtain ⟨b1, b2, b3, b4, b5, b6⟩ := flo_facts n hn
  obtain ⟨c1, c2⟩ := min_max _ _ a1 b1 a3 b3
  obtain ⟨d1, d2⟩ := dob6_num _ _ a3 b3
  have l6 := dob_lt 6 _ _ a1 b1
  have h2 := plc_flo n m hn hm
  by_cases c : n < m
  · rw [if_pos c]; exact plc_inj _ _ l6 b1 (by rw [d2]; omega)
  · rw [if_neg c]; exact plc_inj _ _ l6 a1 (by rw [d2]; omega)
theorem flo_max (m n : Int) (hm : m.natAbs < 9007199254740992) (hn : n.natAbs < 9007199254740992) : dob 7 (flo m) (flo n) = flo (if m < n then n else m) := by
  obtain ⟨a1, a2, a3, a4, a5, a6⟩ := flo_facts m hm
  obtain ⟨b1, b2, b3, b4, b5, b6⟩ := flo_facts n hn
  obtain ⟨d1, d2⟩ := dob7_num _ _ a1 b1 a3 b3
  have l6 := dob_lt 7 _ _ a1 b1
  have h2 := plc_flo m n hm hn
  by_cases c : m < n
  · rw [if_pos c]; exact plc_inj _ _ l6 b1 (by rw [d2]; omega)
  · rw [if_neg c]; exact plc_inj _ _ l6 a1 (by rw [d2]; omega)

theorem flo_opp (m : Int) (u : Nat) (hm : m.natAbs < 9007199254740992) : eqf (dob 1 (flo m) u) (flo (-m)) := by
  obtain ⟨a1, a2, a3, a4, a5, a6⟩ := flo_facts m hm
  show eqf (canonb (turned (flo m))) _
  rw [canonb_num (by rw [nanq_turned _ a1, a3])]
  by_cases h0 : m = 0
  · subst h0; unfold eqf; decide
  · rw [flo_neg m hm h0]
    obtain ⟨b1, b2, b3, b4, b5, b6⟩ := flo_facts (-m) (by omega)
    exact eqf_refl _ b1 b3

theorem flo_div (m n : Int) (hm : m.natAbs < 9007199254740992) (hn : n.natAbs < 9007199254740992) (hmn : (m * n).natAbs < 9007199254740992) (h0 : n ≠ 0) :
    eqf (dob 5 (dob 4 (flo m) (flo n)) (flo n)) (flo m) := by
  rw [flo_product m n hm hn, ← Int.natAbs_mul]
  have hn0 : n.natAbs ≠ 0 := by omega
  have rn := read_small (decide (n < 0)) n.natAbs hn0 hn
  by_cases m0 : m = 0
  · subst m0
    rw [Int.zero_mul]
    rw [show double.nearest (decide ((0 : Int) < 0) ^^ decide (n < 0)) (0 : Int).natAbs 0 = double.word (decide (n < 0)) 0 by
      rw [nearest_small _ _ (by decide), show decide ((0 : Int) < 0) = false by decide, Bool.false_xor]; rfl]
    have rz : ∀ s, double.read (double.word s 0) = .number s 0 (-1074) := fun s => by cases s <;> decide
    have e : dob 5 (double.word (decide (n < 0)) 0) (flo n) = double.word false 0 := by
      refine fop_some ?_
      rw [bits_quo]
      unfold Format.div
      rw [rz]
      show ((Datum.number (decide (n < 0)) 0 (-1074)).quotient _ (double.read (double.nearest (decide (n < 0)) n.natAbs 0))).map double.write = _
      rw [rn]
      simp only [Datum.quotient]
      rw [if_neg (by have := log2_bounds _ hn0 hn; omega)]
      simp only [Option.map_some, Format.write, Nat.zero_shiftLeft, Nat.zero_div, Nat.zero_mod, Bool.xor_self]
      simp [Format.nearest]
    rw [e, flo_zero]
    exact eqf_zero false false
  · have hm0 : m.natAbs ≠ 0 := by omega
    have e1 : (m * n).natAbs = m.natAbs * n.natAbs := Int.natAbs_mul m n
    have hp0 : (m * n).natAbs ≠ 0 := by rw [e1]; exact Nat.mul_ne_zero hm0 hn0
    have rp := read_small (decide (m < 0) ^^ decide (n < 0)) _ hp0 hmn
    have bn := log2_bounds _ hn0 hn
    have bp := log2_bounds _ hp0 hmn
    have lbn : (n.natAbs * 2 ^ (52 - n.natAbs.log2)).log2 = 52 := by rw [log2_mul_pow _ _ hn0]; omega
    have lbp : ((m * n).natAbs * 2 ^ (52 - (m * n).natAbs.log2)).log2 = 52 := by rw [log2_mul_pow _ _ hp0]; omega
    have e : dob 5 (double.nearest (decide (m < 0) ^^ decide (n < 0)) (m * n).natAbs 0) (flo n) = flo m := by
      refine fop_some ?_
      rw [bits_quo]
      unfold Format.div
      rw [rp]
      show ((Datum.number _ _ _).quotient _ (double.read (double.nearest (decide (n < 0)) n.natAbs 0))).map double.write = _
      rw [rn]
      simp only [Datum.quotient]
      rw [if_neg (by omega), lbn, lbp, double_frac]
      simp only [Option.map_some, Format.write]
      obtain ⟨t, ht⟩ : ∃ t, t = 54 + n.natAbs.log2 - (m * n).natAbs.log2 := ⟨_, rfl⟩
      have ed : ((m * n).natAbs * 2 ^ (52 - (m * n).natAbs.log2)) <<< (52 + 2 + 52 - 52) = (m.natAbs * 2 ^ t) * (n.natAbs * 2 ^ (52 - n.natAbs.log2)) := by
        rw [Nat.shiftLeft_eq, e1, Nat.mul_assoc, ← Nat.pow_add]
        rw [show m.natAbs * 2 ^ t * (n.natAbs * 2 ^ (52 - n.natAbs.log2)) = m.natAbs * n.natAbs * (2 ^ t * 2 ^ (52 - n.natAbs.log2)) by
          rw [Nat.mul_assoc, Nat.mul_assoc]; congr 1; rw [← Nat.mul_assoc, ← Nat.mul_assoc, Nat.mul_comm (2 ^ t)], ← Nat.pow_add]
        congr 2
        rw [← e1]
        omega
      rw [ed, Nat.mul_div_cancel _ (by omega), Nat.mul_mod_left]
      rw [show ((0 : Nat) != 0).toNat = 0 from rfl, Nat.add_zero]
      rw [show 2 * (m.natAbs * 2 ^ t) = m.natAbs * 2 ^ (t + 1) by rw [Nat.pow_succ, Nat.mul_comm 2, Nat.mul_assoc]]
      rw [show ((m * n).natAbs.log2 : Int) - 52 - ((n.natAbs.log2 : Int) - 52) - ((52 + 2 + 52 - 52 : Nat) : Int) - 1 = 0 - ((t + 1 : Nat) : Int) by omega]
      rw [nearest_scale, Bool.xor_assoc, Bool.xor_self, Bool.xor_false]
      rfl
    rw [e]
    obtain ⟨a1, a2, a3, a4, a5, a6⟩ := flo_facts m hm
    exact eqf_refl _ a1 a3
end Go.Proofs.Ytajipgcnpemifaa
