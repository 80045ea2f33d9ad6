/- The contracts of the numbers' small functions (package floats and Go's math). -/
import Derived.Test.YtajipgcnpemifaaProg
import Derived.Test.YtajipgcnpemifaaF
import Derived.WalkKit
import Derived.WalkSpells
import Derived.WalkLawsBesides
import Derived.Deep.QuietTactic
import Derived.BigQuiet
import Derived.Lib.Hide
namespace Go.Proofs.Ytajipgcnpemifaa
open Go.RowKit

def nanb : Nat := 9221120237041090561
/-- The clean number that is the same. -/
def canonb (x : Nat) : Nat := if nanq x then nanb else x

@[go_sem] theorem frombits_run (z : Int) (w : World) : (callFunc 11 #[.int .u64 z]).run Try.prog w = .ok (.value (.float .f64 z.toNat)) w := by
  rw [@run_callFunc_extern Try.prog 11 _ Extern.MathFloatBits.float64frombits Try.func11 (by kernel_rfl) (by kernel_rfl) (by kernel_rfl) (by kernel_rfl)]
  rfl
@[go_sem] theorem bits_run (n : Nat) (w : World) : (callFunc 37 #[.float .f64 n]).run Try.prog w = .ok (.value (.int .u64 n)) w := by
  rw [@run_callFunc_extern Try.prog 37 _ Extern.MathFloatBits.float64bits Try.func37 (by kernel_rfl) (by kernel_rfl) (by kernel_rfl) (by kernel_rfl)]
  rfl

theorem nan_any (w : World) : Calls Try.prog 39 #[] w fun e w' => e = .returned (.float .f64 nanb) ∧ w = w' := by
  go_enter Try.func39, Try.ntmps39
  go_wp2
  go_ret
  exact ⟨rfl, rfl⟩

theorem ne_self (x : Nat) (hx : x < 2 ^ 64) : (FloatKind.f64.format.order x x != some .eq) = nanq x := self_ne x hx
theorem eq_self (x : Nat) (hx : x < 2 ^ 64) : (FloatKind.f64.format.order x x == some .eq) = !nanq x := self_eq x hx

theorem canon_any (x : Nat) (w : World) (hx : x < 2 ^ 64) : Calls Try.prog 21 #[.float .f64 x] w fun e w' => e = .returned (.float .f64 (canonb x)) ∧ w = w' := by
  have h := ne_self x hx
  unfold canonb
  cases hq : nanq x <;> rw [hq] at h <;> clear hq
  · go_enter Try.func21, Try.ntmps21
    go_wp2
    go_ret
    exact ⟨rfl, rfl⟩
  · go_enter Try.func21, Try.ntmps21
    go_wp2_with (go_at_call 39; refine (nan_any _).mono ?_; rintro e w' ⟨rfl, rfl⟩)
    go_ret
    exact ⟨rfl, rfl⟩

theorem same_any (x y : Nat) (w : World) (hx : x < 2 ^ 64) (hy : y < 2 ^ 64) :
    Calls Try.prog 17 #[.float .f64 x, .float .f64 y] w fun e w' => e = .returned (.bool (canonb x == canonb y)) ∧ w = w' := by
  go_enter Try.func17, Try.ntmps17
  go_wp2_with (go_at_call 21; refine (canon_any _ _ (by assumption)).mono ?_; rintro e w' ⟨rfl, rfl⟩)
  go_ret
  refine ⟨?_, rfl⟩
  show Ending.returned (Value.bool ((canonb x : Int) == (canonb y : Int))) = _
  rw [show (((canonb x : Int) == (canonb y : Int))) = (canonb x == canonb y) by rw [Bool.eq_iff_iff]; simp only [beq_iff_eq]; omega]

/-- The place of a number in the order. -/
def plc (x : Nat) : Int := if negq x then -1 - ((x % 9223372036854775808 : Nat) : Int) else ((x % 9223372036854775808 : Nat) : Int)

theorem and_bit (n : Nat) : n &&& 2 ^ 63 = if n.testBit 63 then 2 ^ 63 else 0 := by
  apply Nat.eq_of_testBit_eq
  intro i
  rw [Nat.testBit_and, Nat.testBit_two_pow]
  by_cases e : 63 = i
  · subst e
    cases h : n.testBit 63
    · simp
    · rw [if_pos rfl, Nat.testBit_two_pow]; rfl
  · rw [decide_eq_false e, Bool.and_false]
    split
    · rw [Nat.testBit_two_pow, decide_eq_false e]
    · exact (Nat.zero_testBit i).symm

theorem and_sign (n : Nat) (h : n < 2 ^ 64) : bits .and .u64 (n : Int) 9223372036854775808 = if negq n then 9223372036854775808 else 0 := by
  rw [u64_and _ _ (by omega) (by omega) (by omega) (by omega)]
  rw [show (n : Int).toNat &&& (9223372036854775808 : Int).toNat = n &&& 2 ^ 63 from rfl, and_bit]
  unfold negq
  by_cases c : 9223372036854775808 ≤ n
  · have : n.testBit 63 = true := by
      rw [Nat.testBit_eq_decide_div_mod_eq]
      exact decide_eq_true (by omega)
    rw [this, decide_eq_true c]; rfl
  · have : n.testBit 63 = false := by
      rw [Nat.testBit_eq_decide_div_mod_eq]
      exact decide_eq_false (by omega)
    rw [this, decide_eq_false c]; rfl
theorem andnot_sign (n : Nat) (h : n < 2 ^ 64) : bits .andNot .u64 (n : Int) 9223372036854775808 = ((n % 9223372036854775808 : Nat) : Int) := by
  rw [u64_andNot _ _ (by omega) (by omega) (by omega) (by omega)]
  rw [show (n : Int).toNat &&& (18446744073709551615 - (9223372036854775808 : Int).toNat) = n &&& (2 ^ 63 - 1) from rfl, Nat.and_two_pow_sub_one_eq_mod]

theorem canonb_lt (x : Nat) (hx : x < 2 ^ 64) : canonb x < 2 ^ 64 := by unfold canonb nanb; split <;> omega
theorem canonb_num {x : Nat} (h : nanq x = false) : canonb x = x := by unfold canonb; rw [h]; rfl
theorem canonb_nan {x : Nat} (h : nanq x = true) : canonb x = nanb := by unfold canonb; rw [h]; rfl
theorem canonb_canonb (x : Nat) : canonb (canonb x) = canonb x := by
  cases h : nanq x
  · rw [canonb_num h, canonb_num h]
  · rw [canonb_nan h]; decide

theorem ret_int {k : IntKind} {a b : Int} (h : a = b) : Ending.returned (.int k a) = .returned (.int k b) := by rw [h]
theorem ret_bool {a b : Bool} (h : a = b) : Ending.returned (.bool a) = .returned (.bool b) := by rw [h]
theorem ret_float {a b : Nat} (h : a = b) : Ending.returned (.float .f64 a) = .returned (.float .f64 b) := by rw [h]

theorem place_any (x : Nat) (w : World) (hx : x < 2 ^ 64) :
    Calls Try.prog 41 #[.float .f64 x] w fun e w' => e = .returned (.int .i64 (plc (canonb x))) ∧ w = w' := by
  have hc := canonb_lt x hx
  generalize hcx : canonb x = c at hc ⊢
  have h1 := and_sign c hc
  have h2 := andnot_sign c hc
  unfold plc
  cases hq : negq c <;> rw [hq] at h1
  · have hlt : c < 9223372036854775808 := by unfold negq at hq; have := of_decide_eq_false hq; omega
    have t : (bits BinOp.and IntKind.u64 (c : Int) 9223372036854775808 != 0) = false := by rw [h1]; rfl
    have hw : wrap64 (c : Int) = c := by unfold wrap64; omega
    have Hq := Lib.hid hq; have H1 := Lib.hid h1; have H2 := Lib.hid h2; have Hw := Lib.hid hw; have Hc := Lib.hid hcx
    clear hq h1 h2 hw hcx
    go_enter Try.func41, Try.ntmps41
    go_wp2_with (go_at_call 21; refine (canon_any _ _ (by assumption)).mono ?_; rw [Hc.out]; rintro e w' ⟨rfl, rfl⟩)
    go_ret
    refine ⟨ret_int ?_, rfl⟩
    omega
  · have hle : 9223372036854775808 ≤ c := by unfold negq at hq; exact of_decide_eq_true hq
    have t : (bits BinOp.and IntKind.u64 (c : Int) 9223372036854775808 != 0) = true := by rw [h1]; rfl
    have hw : wrap64 (-1 - wrap64 (bits .andNot .u64 (c : Int) 9223372036854775808)) = -1 - ((c % 9223372036854775808 : Nat) : Int) := by rw [h2]; unfold wrap64; omega
    have Hq := Lib.hid hq; have H1 := Lib.hid h1; have H2 := Lib.hid h2; have Hw := Lib.hid hw; have Hc := Lib.hid hcx
    clear hq h1 h2 hw hcx
    go_enter Try.func41, Try.ntmps41
    go_wp2_with (go_at_call 21; refine (canon_any _ _ (by assumption)).mono ?_; rw [Hc.out]; rintro e w' ⟨rfl, rfl⟩)
    go_ret
    refine ⟨ret_int ?_, rfl⟩
    exact Hw.out

def cmpi (a b : Int) : Int := if a < b then -1 else if b < a then 1 else 0

theorem cmp_any (a b : Int) (w : World) : Calls Try.prog 40 #[.int .i64 a, .int .i64 b] w fun e w' => e = .returned (.int .i64 (cmpi a b)) ∧ w = w' := by
  unfold cmpi
  by_cases h1 : a < b
  · rw [if_pos h1]
    go_enter Try.func40, Try.ntmps40
    go_wp2
    go_ret
    exact ⟨rfl, rfl⟩
  · rw [if_neg h1]
    by_cases h2 : b < a
    · rw [if_pos h2]
      go_enter Try.func40, Try.ntmps40
      go_wp2
      go_ret
      exact ⟨rfl, rfl⟩
    · rw [if_neg h2]
      go_enter Try.func40, Try.ntmps40
      go_wp2
      go_ret
      exact ⟨rfl, rfl⟩

theorem compare_any (x y : Nat) (w : World) (hx : x < 2 ^ 64) (hy : y < 2 ^ 64) :
    Calls Try.prog 27 #[.float .f64 x, .float .f64 y] w fun e w' => e = .returned (.int .i64 (cmpi (plc (canonb x)) (plc (canonb y)))) ∧ w = w' := by
  go_enter Try.func27, Try.ntmps27
  go_wp2_with (first | (go_at_call 41; refine (place_any _ _ (by assumption)).mono ?_; rintro e w' ⟨rfl, rfl⟩) | (go_at_call 40; refine (cmp_any _ _ _).mono ?_; rintro e w' ⟨rfl, rfl⟩))
  go_ret
  exact ⟨rfl, rfl⟩
end Go.Proofs.Ytajipgcnpemifaa
