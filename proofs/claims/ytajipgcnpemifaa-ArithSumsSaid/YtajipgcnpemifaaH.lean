/- The contracts of the operators. -/
import Derived.Test.YtajipgcnpemifaaG
import Derived.Laws.EntriesVeiled
namespace Go.Proofs.Ytajipgcnpemifaa
open Go.RowKit

@[go_sem] theorem run_store_float (P : Program) (w : World) (a : Addr) (m : Mode) (k : FloatKind) (b : Nat) : (store a (.float k b) m).run P w = stored P w a (.float k b) m := run_store P w a _ m rfl

theorem xor_low (k y : Nat) (h : y < 2 ^ k) : y ^^^ 2 ^ k = 2 ^ k + y := by
  apply Nat.eq_of_testBit_eq
  intro i
  rw [Nat.testBit_xor, Nat.testBit_two_pow]
  by_cases e : k = i
  · subst e
    rw [Nat.testBit_two_pow_add_eq, decide_eq_true rfl, Bool.xor_true]
  · rw [decide_eq_false e, Bool.xor_false]
    by_cases c : i < k
    · rw [Nat.testBit_two_pow_add_gt c]
    · have h1 : 2 ^ (k + 1) ≤ 2 ^ i := Nat.pow_le_pow_right (by decide) (by omega)
      have h2 : 2 ^ (k + 1) = 2 ^ k + 2 ^ k := by rw [Nat.pow_succ, Nat.mul_two]
      rw [Nat.testBit_lt_two_pow (show y < 2 ^ i by omega), Nat.testBit_lt_two_pow (show 2 ^ k + y < 2 ^ i by omega)]
theorem xor_high (k y : Nat) (h : y < 2 ^ k) : (2 ^ k + y) ^^^ 2 ^ k = y := by
  rw [← xor_low k y h, Nat.xor_assoc, Nat.xor_self, Nat.xor_zero]

theorem turned_xor (x : Nat) (hx : x < 2 ^ 64) : x ^^^ 9223372036854775808 = turned x := by
  unfold turned
  have e63 : (2 : Nat) ^ 63 = 9223372036854775808 := rfl
  by_cases c : x < 9223372036854775808
  · have := xor_low 63 x (by omega)
    rw [e63] at this
    rw [if_pos c, this, Nat.add_comm]
  · have := xor_high 63 (x - 9223372036854775808) (by omega)
    rw [e63, show 9223372036854775808 + (x - 9223372036854775808) = x by omega] at this
    rw [if_neg c, this]
theorem negFloat_eq (x : Nat) (hx : x < 2 ^ 64) : Op.negFloat .f64 x = turned x := by
  rw [← turned_xor x hx]
  rfl

theorem neg_run (x : Nat) (hx : x < 2 ^ 64) (w : World) : (Op.unary .neg (.float .f64 x)).run Try.prog w = .ok (.float .f64 (turned x)) w := by
  rw [← negFloat_eq x hx]; rfl

theorem turned_lt (x : Nat) (hx : x < 2 ^ 64) : turned x < 2 ^ 64 := by unfold turned; split <;> omega

theorem neg_any (x y : Nat) (w : World) (hx : x < 2 ^ 64) :
    Calls Try.prog 43 #[.float .f64 x, .float .f64 y] w fun e w' => e = .returned (.float .f64 (turned x)) ∧ w = w' := by
  have h := neg_run x hx
  go_enter Try.func43, Try.ntmps43
  go_wp2
  go_ret
  exact ⟨rfl, rfl⟩


/-- The cells of the table of operators. -/
def tableV : Array Value :=
            #[Value.string { data := #[] }, Value.nilFunc, Value.string { data := #[45] },
              Value.func (Fn.func 43) #[] #[], Value.string { data := #[43] }, Value.func (Fn.func 44) #[] #[],
              Value.string { data := #[45] }, Value.func (Fn.func 45) #[] #[], Value.string { data := #[42] },
              Value.func (Fn.func 46) #[] #[], Value.string { data := #[47] }, Value.func (Fn.func 47) #[] #[],
              Value.string { data := #[109, 105, 110] }, Value.func (Fn.func 48) #[] #[],
              Value.string { data := #[109, 97, 120] }, Value.func (Fn.func 49) #[] #[]]

set_option maxHeartbeats 1000000 in
theorem table_any (w : World) :
    Calls Try.prog 35 #[] w fun e w' => e = .returned (.agg tableV) ∧ w.alloc (.cells tableV 62) = w' := by
  unfold tableV
  go_enter Try.func35, Try.ntmps35
  go_wp2
  refine bodyPost_ret (v := .agg #[Value.string { data := #[] }, Value.nilFunc, Value.string { data := #[45] },
              Value.func (Fn.func 43) #[] #[], Value.string { data := #[43] }, Value.func (Fn.func 44) #[] #[],
              Value.string { data := #[45] }, Value.func (Fn.func 45) #[] #[], Value.string { data := #[42] },
              Value.func (Fn.func 46) #[] #[], Value.string { data := #[47] }, Value.func (Fn.func 47) #[] #[],
              Value.string { data := #[109, 105, 110] }, Value.func (Fn.func 48) #[] #[],
              Value.string { data := #[109, 97, 120] }, Value.func (Fn.func 49) #[] #[]]) (by simp [results, Try.results35, go_sem]) rfl ⟨rfl, rfl⟩
end Go.Proofs.Ytajipgcnpemifaa
