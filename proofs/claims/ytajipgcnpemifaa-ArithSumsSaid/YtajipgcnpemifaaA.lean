/- Laws of numbers: sums and products commute; what is written of a word that is read is that word. -/
import Derived.Laws.FloatBits
namespace Go.Proofs.Ytajipgcnpemifaa
open Ieee

theorem signed_flip (neg : Bool) (m u : Nat) : signed (!neg) m u = -signed neg m u := by
  cases neg <;> simp [signed]

theorem sum_comm (a b : Datum) : a.sum b = b.sum a := by
  cases a with
  | nan s t => cases b <;> rfl
  | infinity s =>
    cases b with
    | nan u t => rfl
    | infinity t =>
      simp only [Datum.sum]
      by_cases h : s = t
      · subst h; rfl
      · rw [if_neg h, if_neg fun e => h e.symm]
    | number t n j => rfl
  | number s m i =>
    cases b with
    | nan u t => rfl
    | infinity t => rfl
    | number t n j =>
      simp only [Datum.sum]
      rw [Int.min_comm j i, Int.add_comm (signed t n _), Bool.and_comm t s]

theorem product_comm (a b : Datum) : a.product b = b.product a := by
  cases a with
  | nan s t => cases b <;> rfl
  | infinity s =>
    cases b with
    | nan u t => rfl
    | infinity t => simp only [Datum.product, Bool.xor_comm]
    | number t n j => simp only [Datum.product, Bool.xor_comm]
  | number s m i =>
    cases b with
    | nan u t => rfl
    | infinity t => simp only [Datum.product, Bool.xor_comm]
    | number t n j => simp only [Datum.product, Bool.xor_comm, Nat.mul_comm, Int.add_comm]

theorem add_comm (f : Format) (x y : Nat) : f.add x y = f.add y x := by unfold Format.add; rw [sum_comm]
theorem mul_comm (f : Format) (x y : Nat) : f.mul x y = f.mul y x := by unfold Format.mul; rw [product_comm]
end Go.Proofs.Ytajipgcnpemifaa
