/- A word with its sign turned stands for the opposite. -/
import Derived.Test.YtajipgcnpemifaaB
namespace Go.Proofs.Ytajipgcnpemifaa
open Ieee

def turned (x : Nat) : Nat := if x < 9223372036854775808 then x + 9223372036854775808 else x - 9223372036854775808

theorem turned_turned (x : Nat) (hx : x < 2 ^ 64) : turned (turned x) = x := by
  unfold turned
  by_cases h : x < 9223372036854775808
  · rw [if_pos h, if_neg (by omega)]; omega
  · rw [if_neg h, if_pos (by omega)]; omega

theorem read_turned (x : Nat) (hx : x < 2 ^ 64) : double.read (turned x) = (double.read x).opposite := by
  have hS := double_sign
  have e1 : turned x % double.signWeight = x % double.signWeight := by
    rw [hS]; unfold turned; split <;> omega
  have e2 : (turned x / double.signWeight % 2 == 1) = !(x / double.signWeight % 2 == 1) := by
    rw [hS]
    by_cases h : x < 9223372036854775808
    · have a : x / 9223372036854775808 % 2 = 0 := by omega
      have b : turned x / 9223372036854775808 % 2 = 1 := by unfold turned; rw [if_pos h]; omega
      rw [a, b]; rfl
    · have a : x / 9223372036854775808 % 2 = 1 := by omega
      have b : turned x / 9223372036854775808 % 2 = 0 := by unfold turned; rw [if_neg h]; omega
      rw [a, b]; rfl
  unfold Format.read
  simp only [e1, e2]
  split
  · rfl
  · split
    · rfl
    · split <;> rfl

theorem opposite_opposite (d : Datum) : d.opposite.opposite = d := by cases d <;> simp [Datum.opposite]

/-- x - y is x + (-y). -/
theorem sub_eq (x y : Nat) (hy : y < 2 ^ 64) : double.sub x y = double.add x (turned y) := by
  unfold Format.sub Format.add
  rw [read_turned y hy]
end Go.Proofs.Ytajipgcnpemifaa
