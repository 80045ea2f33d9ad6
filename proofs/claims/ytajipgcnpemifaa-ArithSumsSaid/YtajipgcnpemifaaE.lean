/- The order of numbers by their bits; sums of finite numbers by their bits. -/
import Derived.Test.YtajipgcnpemifaaD
namespace Go.Proofs.Ytajipgcnpemifaa
open Ieee

/-- Whether bits are a NaN's. -/
def nanq (x : Nat) : Bool := decide (9218868437227405312 < x % 9223372036854775808)
/-- Whether bits are a finite number's. -/
def finq (x : Nat) : Bool := decide (x % 9223372036854775808 < 9218868437227405312)
def negq (x : Nat) : Bool := decide (9223372036854775808 ≤ x)
/-- The rung with the sign. -/
def srung (x : Nat) : Int := if 9223372036854775808 ≤ x then -((x % 9223372036854775808 : Nat) : Int) else ((x % 9223372036854775808 : Nat) : Int)

/-- What a rung is worth in least units. -/
def uval (r : Nat) : Nat := if r < 4503599627370496 then r else (4503599627370496 + r % 4503599627370496) * 2 ^ (r / 4503599627370496 - 1)
def sval (neg : Bool) (n : Nat) : Int := if neg then -(n : Int) else n

theorem uval_step (r : Nat) : uval r < uval (r + 1) := by
  unfold uval
  by_cases h : r < 4503599627370496
  · rw [if_pos h]
    by_cases h1 : r + 1 < 4503599627370496
    · rw [if_pos h1]; omega
    · rw [if_neg h1, show r + 1 = 4503599627370496 by omega]
      rw [Nat.mod_self, Nat.div_self (by omega), Nat.sub_self, Nat.pow_zero]; omega
  · rw [if_neg h, if_neg (by omega)]
    by_cases hm : r % 4503599627370496 = 4503599627370495
    · rw [show (r + 1) % 4503599627370496 = 0 by omega, show (r + 1) / 4503599627370496 - 1 = (r / 4503599627370496 - 1) + 1 by omega, hm, Nat.pow_succ]
      have : 0 < 2 ^ (r / 4503599627370496 - 1) := Nat.two_pow_pos _
      omega
    · rw [show (r + 1) % 4503599627370496 = r % 4503599627370496 + 1 by omega, show (r + 1) / 4503599627370496 = r / 4503599627370496 by omega]
      exact Nat.mul_lt_mul_of_pos_right (by omega) (Nat.two_pow_pos _)

theorem uval_mono {a b : Nat} (h : a < b) : uval a < uval b := by
  induction b with
  | zero => omega
  | succ n ih =>
    by_cases e : a = n
    · subst e; exact uval_step a
    · exact Nat.lt_trans (ih (by omega)) (uval_step n)
theorem uval_lt_iff (a b : Nat) : uval a < uval b ↔ a < b := by
  refine ⟨fun h => ?_, uval_mono⟩
  by_cases c : a < b
  · exact c
  · by_cases e : a = b
    · subst e; omega
    · have := @uval_mono b a (by omega); omega
theorem uval_inj {a b : Nat} (h : uval a = uval b) : a = b := by
  by_cases c : a < b
  · have := uval_mono c; omega
  · by_cases e : b < a
    · have := uval_mono e; omega
    · omega
theorem uval_zero : uval 0 = 0 := rfl

theorem negq_eq (x : Nat) (hx : x < 2 ^ 64) : (x / double.signWeight % 2 == 1) = negq x := by
  rw [double_sign]; unfold negq
  rw [Bool.eq_iff_iff]; simp; omega

theorem read_nan (x : Nat) (h : nanq x = true) : ∃ s t, double.read x = .nan s t := by
  unfold nanq at h
  have h := of_decide_eq_true h
  unfold Format.read
  simp only [double_sign, double_binade, double_inf]
  rw [if_neg (by omega), if_neg (by omega), if_neg (by omega)]
  exact ⟨_, _, rfl⟩

theorem read_inf (x : Nat) (hx : x < 2 ^ 64) (h : nanq x = false) (h2 : finq x = false) : double.read x = .infinity (negq x) := by
  unfold nanq at h; unfold finq at h2
  have h := of_decide_eq_false h
  have h2 := of_decide_eq_false h2
  have hn := negq_eq x hx
  unfold Format.read
  simp only [hn]
  simp only [double_sign, double_binade, double_inf]
  rw [if_neg (by omega), if_neg (by omega), if_pos (by omega)]

/-- What a finite number is read as. -/
theorem read_fin (x : Nat) (hx : x < 2 ^ 64) (h : finq x = true) :
    ∃ (m : Nat) (k : Nat), double.read x = .number (negq x) m (-1074 + (k : Int)) ∧ m * 2 ^ k = uval (x % 9223372036854775808) := by
  unfold finq at h
  have h := of_decide_eq_true h
  have hn := negq_eq x hx
  unfold Format.read
  simp only [hn]
  simp only [double_sign, double_binade, double_inf, double_least]
  by_cases h1 : x % 9223372036854775808 < 4503599627370496
  · rw [if_pos h1]
    refine ⟨_, 0, rfl, ?_⟩
    unfold uval; rw [if_pos h1]; omega
  · rw [if_neg h1, if_pos h]
    refine ⟨_, _, rfl, ?_⟩
    unfold uval; rw [if_neg h1]

theorem finq_nanq {x : Nat} (h : finq x = true) : nanq x = false := by
  unfold finq at h; unfold nanq
  have h := of_decide_eq_true h
  exact decide_eq_false (by omega)

theorem signed_eq (s : Bool) (m k : Nat) : signed s m k = sval s (m * 2 ^ k) := by
  unfold signed sval; rw [Nat.shiftLeft_eq]

theorem sval_mul (s : Bool) (m k : Nat) : sval s (m * k) = sval s m * (k : Int) := by
  unfold sval; cases s <;> simp [Int.neg_mul]

theorem cmp_eq (a b c d : Int) (h1 : a < b ↔ c < d) (h2 : a = b ↔ c = d) : compare a b = compare c d := by
  show compareOfLessAndEq a b = compareOfLessAndEq c d
  unfold compareOfLessAndEq
  by_cases e1 : a < b
  · rw [if_pos e1, if_pos (h1.1 e1)]
  · rw [if_neg e1, if_neg (fun h => e1 (h1.2 h))]
    by_cases e2 : a = b
    · rw [if_pos e2, if_pos (h2.1 e2)]
    · rw [if_neg e2, if_neg (fun h => e2 (h2.2 h))]

theorem cmp_lt {a b : Int} (h : a < b) : compare a b = .lt := by
  show compareOfLessAndEq a b = _
  unfold compareOfLessAndEq; rw [if_pos h]
theorem cmp_gt {a b : Int} (h : b < a) : compare a b = .gt := by
  show compareOfLessAndEq a b = _
  unfold compareOfLessAndEq; rw [if_neg (by omega), if_neg (by omega)]
theorem cmp_refl (a : Int) : compare a a = .eq := by
  show compareOfLessAndEq a a = _
  unfold compareOfLessAndEq; rw [if_neg (by omega), if_pos rfl]

theorem cmp_scale (a b : Int) (k : Nat) (hk : 0 < k) : compare (a * (k : Int)) (b * (k : Int)) = compare a b := by
  have hk' : (0 : Int) < (k : Int) := by omega
  refine cmp_eq _ _ _ _ ⟨fun h => ?_, fun h => ?_⟩ ⟨fun h => ?_, fun h => by rw [h]⟩
  · exact Int.lt_of_mul_lt_mul_right h (Int.le_of_lt hk')
  · exact Int.mul_lt_mul_of_pos_right h hk'
  · exact Int.eq_of_mul_eq_mul_right (Int.ne_of_gt hk') h

theorem sval_cmp (s t : Bool) (a b : Nat) : compare (sval s (uval a)) (sval t (uval b)) = compare (sval s a) (sval t b) := by
  have h0 : ∀ n, uval n = 0 → n = 0 := fun n h => uval_inj (h.trans uval_zero.symm)
  have h1 := uval_lt_iff a b
  have h2 := uval_lt_iff b a
  have h3 : uval a = uval b ↔ a = b := ⟨uval_inj, fun h => by rw [h]⟩
  have ha := h0 a
  have hb := h0 b
  have za : a = 0 → uval a = 0 := fun h => by rw [h]; rfl
  have zb : b = 0 → uval b = 0 := fun h => by rw [h]; rfl
  refine cmp_eq _ _ _ _ ?_ ?_ <;> unfold sval <;> cases s <;> cases t <;> simp <;> omega

theorem srung_eq (x : Nat) : srung x = sval (negq x) (x % 9223372036854775808) := by
  unfold srung sval negq
  by_cases h : 9223372036854775808 ≤ x <;> simp [h]

/-- The scaled sum: what two finite numbers are worth over a common place. -/
theorem scaled (s : Bool) (m k : Nat) (c : Nat) (hc : c ≤ k) : signed s m ((-1074 + (k : Int)) - (-1074 + (c : Int))).toNat * ((2 ^ c : Nat) : Int) = sval s (m * 2 ^ k) := by
  rw [signed_eq, ← sval_mul, Nat.mul_assoc, ← Nat.pow_add]
  congr 3
  omega

theorem order_fin (x y : Nat) (hx : x < 2 ^ 64) (hy : y < 2 ^ 64) (fx : finq x = true) (fy : finq y = true) :
    double.order x y = some (compare (srung x) (srung y)) := by
  obtain ⟨m, k, e1, u1⟩ := read_fin x hx fx
  obtain ⟨n, j, e2, u2⟩ := read_fin y hy fy
  unfold Format.order
  rw [e1, e2]
  show some (compare _ _) = _
  congr 1
  obtain ⟨c, hc⟩ : ∃ c, c = min k j := ⟨_, rfl⟩
  have hb : min (-1074 + (k : Int)) (-1074 + (j : Int)) = -1074 + (c : Int) := by omega
  rw [hb, ← cmp_scale _ _ (2 ^ c) (Nat.two_pow_pos c), scaled _ _ _ _ (by omega), scaled _ _ _ _ (by omega), u1, u2, sval_cmp, srung_eq, srung_eq]

theorem order_any (x y : Nat) (hx : x < 2 ^ 64) (hy : y < 2 ^ 64) (nx : nanq x = false) (ny : nanq y = false) :
    double.order x y = some (compare (srung x) (srung y)) := by
  by_cases fx : finq x = true
  · by_cases fy : finq y = true
    · exact order_fin x y hx hy fx fy
    · have fy : finq y = false := by simpa using fy
      obtain ⟨m, k, e1, u1⟩ := read_fin x hx fx
      unfold Format.order
      rw [e1, read_inf y hy ny fy]
      show some (if negq y then Ordering.gt else Ordering.lt) = _
      unfold finq at fx fy
      have fx := of_decide_eq_true fx
      have fy := of_decide_eq_false fy
      unfold nanq at ny
      have ny := of_decide_eq_false ny
      congr 1
      unfold negq srung
      by_cases c : 9223372036854775808 ≤ y
      · rw [decide_eq_true c, if_pos c]
        refine (cmp_gt ?_).symm
        split <;> omega
      · rw [decide_eq_false c, if_neg c]
        refine (cmp_lt ?_).symm
        split <;> omega
  · have fx : finq x = false := by simpa using fx
    by_cases fy : finq y = true
    · obtain ⟨n, j, e2, u2⟩ := read_fin y hy fy
      unfold Format.order
      rw [e2, read_inf x hx nx fx]
      show some (if negq x then Ordering.lt else Ordering.gt) = _
      unfold finq at fx fy
      have fy := of_decide_eq_true fy
      have fx := of_decide_eq_false fx
      unfold nanq at nx
      have nx := of_decide_eq_false nx
      congr 1
      unfold negq srung
      by_cases c : 9223372036854775808 ≤ x
      · rw [decide_eq_true c, if_pos c]
        refine (cmp_lt ?_).symm
        split <;> omega
      · rw [decide_eq_false c, if_neg c]
        refine (cmp_gt ?_).symm
        split <;> omega
    · have fy : finq y = false := by simpa using fy
      unfold Format.order
      rw [read_inf x hx nx fx, read_inf y hy ny fy]
      show some (compare (negq y).toNat (negq x).toNat) = _
      unfold finq at fx fy
      have fx := of_decide_eq_false fx
      have fy := of_decide_eq_false fy
      unfold nanq at nx ny
      have nx := of_decide_eq_false nx
      have ny := of_decide_eq_false ny
      congr 1
      unfold negq srung
      by_cases c : 9223372036854775808 ≤ x
      · by_cases d : 9223372036854775808 ≤ y
        · rw [decide_eq_true c, decide_eq_true d, if_pos c, if_pos d, show x % 9223372036854775808 = y % 9223372036854775808 by omega, cmp_refl]; rfl
        · rw [decide_eq_true c, decide_eq_false d, if_pos c, if_neg d, cmp_lt (by omega)]; rfl
      · by_cases d : 9223372036854775808 ≤ y
        · rw [decide_eq_false c, decide_eq_true d, if_neg c, if_pos d, cmp_gt (by omega)]; rfl
        · rw [decide_eq_false c, decide_eq_false d, if_neg c, if_neg d, show x % 9223372036854775808 = y % 9223372036854775808 by omega, cmp_refl]; rfl

theorem order_nan (x y : Nat) (h : nanq x = true ∨ nanq y = true) : double.order x y = none := by
  unfold Format.order
  rcases h with h | h
  · obtain ⟨s, t, e⟩ := read_nan x h
    rw [e]; cases double.read y <;> rfl
  · obtain ⟨s, t, e⟩ := read_nan y h
    rw [e]; cases double.read x <;> rfl

/-- A number is itself, but a NaN. -/
theorem self_ne (x : Nat) (hx : x < 2 ^ 64) : (double.order x x != some .eq) = nanq x := by
  by_cases h : nanq x = true
  · rw [order_nan x x (.inl h), h]; rfl
  · have h : nanq x = false := by simpa using h
    rw [order_any x x hx hx h h, cmp_refl, h]; rfl
theorem self_eq (x : Nat) (hx : x < 2 ^ 64) : (double.order x x == some .eq) = !nanq x := by
  by_cases h : nanq x = true
  · rw [order_nan x x (.inl h), h]; rfl
  · have h : nanq x = false := by simpa using h
    rw [order_any x x hx hx h h, cmp_refl, h]; rfl
end Go.Proofs.Ytajipgcnpemifaa
