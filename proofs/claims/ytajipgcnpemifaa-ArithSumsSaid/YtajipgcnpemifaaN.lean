/- The laws that hold: what both sides compute is the same number. -/
import Derived.Test.YtajipgcnpemifaaL
namespace Go.Proofs.Ytajipgcnpemifaa
open Ieee

theorem bits_add (x y : Nat) : floatBits .add .f64 x y = double.add x y := rfl
theorem bits_sub (x y : Nat) : floatBits .sub .f64 x y = double.sub x y := rfl
theorem bits_mul (x y : Nat) : floatBits .mul .f64 x y = double.mul x y := rfl
theorem bits_quo (x y : Nat) : floatBits .quo .f64 x y = double.div x y := rfl

theorem nan_left (op : BinOp) (x y : Nat) (h : nanq x = true) : floatBits op .f64 x y = none := by
  obtain ⟨s, t, e⟩ := read_nan x h
  cases op <;> first | rfl | skip
  · show double.add x y = none; unfold Format.add; rw [e]; rfl
  · show double.sub x y = none; unfold Format.sub; rw [e]; rfl
  · show double.mul x y = none; unfold Format.mul; rw [e]; rfl
  · show double.div x y = none; unfold Format.div; rw [e]; rfl
theorem nan_right (op : BinOp) (x y : Nat) (h : nanq y = true) : floatBits op .f64 x y = none := by
  obtain ⟨s, t, e⟩ := read_nan y h
  cases op <;> first | rfl | skip
  · show double.add x y = none; unfold Format.add; rw [e]; cases double.read x <;> rfl
  · show double.sub x y = none; unfold Format.sub; rw [e]; cases double.read x <;> rfl
  · show double.mul x y = none; unfold Format.mul; rw [e]; cases double.read x <;> rfl
  · show double.div x y = none; unfold Format.div; rw [e]; cases double.read x <;> rfl

theorem fop_nan_left (op : BinOp) (x y : Nat) (h : nanq x = true) : fop op x y = nanb := by unfold fop; rw [nan_left op x y h]; rfl
theorem fop_nan_right (op : BinOp) (x y : Nat) (h : nanq y = true) : fop op x y = nanb := by unfold fop; rw [nan_right op x y h]; rfl
theorem fop_some {op : BinOp} {x y r : Nat} (h : floatBits op .f64 x y = some r) : fop op x y = r := by unfold fop; rw [h]; rfl

theorem nanq_turned (x : Nat) (hx : x < 2 ^ 64) : nanq (turned x) = nanq x := by
  unfold nanq turned
  congr 1
  by_cases h : x < 9223372036854775808
  · rw [if_pos h, show (x + 9223372036854775808) % 9223372036854775808 = x % 9223372036854775808 by omega]
  · rw [if_neg h, show (x - 9223372036854775808) % 9223372036854775808 = x % 9223372036854775808 by omega]
theorem turned_mod (x : Nat) (hx : x < 2 ^ 64) : turned x % 9223372036854775808 = x % 9223372036854775808 := by
  unfold turned; split <;> omega
theorem negq_turned (x : Nat) (hx : x < 2 ^ 64) : negq (turned x) = !negq x := by
  unfold negq turned
  by_cases h : x < 9223372036854775808
  · rw [if_pos h, decide_eq_true (by omega), decide_eq_false (by omega)]; rfl
  · rw [if_neg h, decide_eq_false (by omega), decide_eq_true (by omega)]; rfl

theorem plc_inj (x y : Nat) (hx : x < 2 ^ 64) (hy : y < 2 ^ 64) (h : plc x = plc y) : x = y := by
  unfold plc negq at h
  by_cases a : 9223372036854775808 ≤ x <;> by_cases b : 9223372036854775808 ≤ y <;> simp [a, b] at h <;> omega
theorem plc_turned (x : Nat) (hx : x < 2 ^ 64) : plc (turned x) = -1 - plc x := by
  unfold plc
  rw [negq_turned x hx, turned_mod x hx]
  cases negq x <;> simp <;> omega

theorem nanb_nan : nanq nanb = true := by decide

theorem leastb_comm (x y : Nat) (hx : x < 2 ^ 64) (hy : y < 2 ^ 64) : leastb x y = leastb y x := by
  unfold leastb
  rw [Bool.or_comm (nanq y) (nanq x)]
  split
  · rfl
  · by_cases h : plc x < plc y
    · rw [if_pos h, if_neg (by omega)]
    · rw [if_neg h]
      by_cases h2 : plc y < plc x
      · rw [if_pos h2]
      · rw [if_neg h2]; exact plc_inj y x hy hx (by omega)

theorem leastb_self (x : Nat) (h : nanq x = false) : leastb x x = x := by
  unfold leastb; rw [h, if_neg (by decide), if_neg (by omega)]

theorem leastb_nan_left (x y : Nat) (h : nanq x = true) : leastb x y = nanb := by unfold leastb; rw [h]; rfl
theorem leastb_nan_right (x y : Nat) (h : nanq y = true) : leastb x y = nanb := by unfold leastb; rw [h, Bool.or_true]; rfl

theorem leastb_inf (x : Nat) (hx : x < 2 ^ 64) (h : nanq x = false) : leastb x 9218868437227405312 = x := by
  unfold leastb
  rw [h, if_neg (by decide)]
  by_cases c : plc x < plc 9218868437227405312
  · rw [if_pos c]
  · rw [if_neg c]
    refine (plc_inj x _ hx (by decide) ?_).symm
    have e : plc 9218868437227405312 = 9218868437227405312 := by decide
    rw [e] at c ⊢
    unfold nanq at h
    have h := of_decide_eq_false h
    unfold plc at c ⊢
    cases hq : negq x <;> rw [hq] at c <;> simp at c ⊢ <;> omega

theorem read_one : double.read 4607182418800017408 = .number false 4503599627370496 (-52) := by decide
theorem read_minus_one : double.read 13830554455654793216 = .number true 4503599627370496 (-52) := by decide

theorem word_turned (s : Bool) (r : Nat) (hr : r < 9223372036854775808) : double.word (!s) r = turned (double.word s r) := by
  rw [word_eq, word_eq]
  cases s
  · rw [if_pos (by decide), if_neg (by decide)]
    unfold turned
    rw [if_pos hr]; omega
  · rw [if_neg (by decide), if_pos rfl]
    unfold turned
    rw [if_neg (by omega)]; omega

theorem nearest_turned (s : Bool) (m : Nat) (p : Int) : double.nearest (!s) m p = turned (double.nearest s m p) := by
  unfold Format.nearest
  by_cases hm : m = 0
  · rw [if_pos hm, if_pos hm]; exact word_turned s 0 (by omega)
  · rw [if_neg hm, if_neg hm]
    have e : ∀ n d, Toward.even.cut (!s) n d = Toward.even.cut s n d := fun n d => by rw [cut_eq, cut_eq]
    simp only [e]
    refine word_turned s _ (Nat.lt_of_le_of_lt (Nat.min_le_right _ _) ?_)
    rw [double_inf]; omega

/-- x times a number whose value is one, with a sign. -/
theorem mul_unit (x u : Nat) (s : Bool) (hx : x < 2 ^ 64) (nx : nanq x = false) (hu : double.read u = .number s 4503599627370496 (-52)) :
    double.mul x u = some (if s then turned x else x) := by
  have hw := write_read x hx
  have ht := turned_turned x hx
  unfold Format.mul
  rw [hu]
  by_cases fx : finq x = true
  · obtain ⟨m, k, e1, u1⟩ := read_fin x hx fx
    rw [e1] at hw ⊢
    have hw' : double.nearest (negq x) m (-1074 + (k : Int)) = x := hw
    show some (double.nearest (negq x ^^ s) (m * 4503599627370496) (-1074 + (k : Int) + -52)) = _
    have e2 := nearest_scale (negq x ^^ s) m 52 (-1074 + (k : Int))
    rw [show (2 : Nat) ^ 52 = 4503599627370496 by decide] at e2
    rw [show (-1074 + (k : Int) + -52) = -1074 + (k : Int) - ((52 : Nat) : Int) by omega, e2]
    cases s
    · rw [Bool.xor_false, hw', if_neg (by decide)]
    · rw [Bool.xor_true, nearest_turned, hw', if_pos rfl]
  · have fx : finq x = false := by simpa using fx
    have hi := read_inf x hx nx fx
    rw [hi] at hw ⊢
    have hw' : double.word (negq x) double.infRung = x := hw
    show some (double.word (negq x ^^ s) double.infRung) = _
    congr 1
    cases s
    · rw [Bool.xor_false, hw', if_neg (by decide)]
    · rw [Bool.xor_true, word_turned _ _ (by rw [double_inf]; omega), hw', if_pos rfl]

theorem div_one (x : Nat) (hx : x < 2 ^ 64) (nx : nanq x = false) : double.div x 4607182418800017408 = some x := by
  have hw := write_read x hx
  unfold Format.div
  rw [read_one]
  by_cases fx : finq x = true
  · obtain ⟨m, k, e1, u1⟩ := read_fin x hx fx
    rw [e1] at hw ⊢
    have hw' : double.nearest (negq x) m (-1074 + (k : Int)) = x := hw
    simp only [Datum.quotient, double_frac]
    rw [if_neg (by decide)]
    simp only [Option.map_some, Format.write, Bool.xor_false]
    have hl : (4503599627370496 : Nat).log2 = 52 := by decide
    rw [hl]
    have hm : m.log2 ≤ 52 := by
      have hr : double.read x = .number (negq x) m (-1074 + (k : Int)) := e1
      by_cases h0 : m = 0
      · subst h0; decide
      · have hlt : m < 2 ^ 53 := by
          unfold finq at fx
          have fx := of_decide_eq_true fx
          have hn := negq_eq x hx
          unfold Format.read at hr
          simp only [hn] at hr
          simp only [double_sign, double_binade, double_inf, double_least] at hr
          split at hr
          · injection hr with _ h2 _; omega
          · first | (injection hr with _ h2 _; omega) | (rw [if_pos fx] at hr; injection hr with _ h2 _; omega)
        have := (Nat.log2_lt h0 (k := 53)).2 hlt
        omega
    obtain ⟨t, ht⟩ : ∃ t, t = 52 + 2 + 52 - m.log2 - 52 := ⟨_, rfl⟩
    have e : (52 + 2 + 52 - m.log2) = t + 52 := by omega
    rw [e, Nat.shiftLeft_eq, Nat.pow_add, ← Nat.mul_assoc, show (2 : Nat) ^ 52 = 4503599627370496 by decide, Nat.mul_div_cancel _ (by decide), Nat.mul_mod_left]
    rw [show ((0 : Nat) != 0).toNat = 0 from rfl, Nat.add_zero]
    have e2 := nearest_scale (negq x) m (t + 1) (-1074 + (k : Int))
    rw [show 2 * (m * 2 ^ t) = m * 2 ^ (t + 1) by rw [Nat.pow_succ, Nat.mul_comm 2, Nat.mul_assoc]]
    rw [show (-1074 + (k : Int) - (-52) - ((t + 52 : Nat) : Int) - 1) = -1074 + (k : Int) - ((t + 1 : Nat) : Int) by omega, e2, hw']
  · have fx : finq x = false := by simpa using fx
    have hi := read_inf x hx nx fx
    rw [hi] at hw ⊢
    have hw' : double.word (negq x) double.infRung = x := hw
    show some (double.word (negq x ^^ false) double.infRung) = _
    rw [Bool.xor_false, hw']
end Go.Proofs.Ytajipgcnpemifaa
