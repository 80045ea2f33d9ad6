/- The contracts of New, size, Discard, Copy. -/
import Derived.Test.YtadoobkieehajaaD
namespace Go.Proofs.Ytadoobkieehajaa
open Go.RowKit

theorem size_law (n : UInt8) (w : World) : Calls Try.prog 12 #[.int .u8 n.toNat] w fun e w' => e = .returned (.int .i64 (2 + n.toNat % 255 : Nat)) ∧ w = w' := by
  have h0 : n.toNat < 256 := n.toNat_lt
  go_enter Try.func12, Try.ntmps12
  go_wp2
  go_ret
  exact ⟨by simp, rfl⟩

theorem new_bad (s o : Int) (w : World) (h : s < 2 ∨ 256 < s ∨ o < 0 ∨ 281474976710656 < o) :
    Calls Try.prog 11 #[.int .i64 s, .int .i64 o] w fun e w' => e = .returned (.tuple #[.pointer none, .int .i64 2]) ∧ w = w' := by
  by_cases h1 : s < 2
  · clear h
    go_enter Try.func11, Try.ntmps11
    go_wp2
    go_ret2
    exact ⟨rfl, rfl⟩
  · by_cases h2 : 256 < s
    · clear h
      go_enter Try.func11, Try.ntmps11
      go_wp2
      go_ret2
      exact ⟨rfl, rfl⟩
    · by_cases h3 : o < 0
      · clear h
        go_enter Try.func11, Try.ntmps11
        go_wp2
        go_ret2
        exact ⟨rfl, rfl⟩
      · have h4 : 281474976710656 < o := by omega
        clear h
        go_enter Try.func11, Try.ntmps11
        go_wp2
        go_ret2
        exact ⟨rfl, rfl⟩

/-- The cells of no buffer. -/
def Z : Array Value := Array.replicate 256 (.int .u8 0) ++ #[.int .i64 0, .int .i64 0, .int .i64 0, .int .i64 0]
theorem Z_size : Z.size = 260 := by simp [Z]
theorem Z_run (w : World) : Sem.run Try.prog (zeroValue 61) w = .ok (.agg Z) w := by kernel_rfl
theorem Z_ring (i : Nat) (h : i < 256) : Z[i]? = some (.int .u8 0) := by
  simp only [Z]
  rw [Array.getElem?_append_left (by simpa using h)]
  simp [h]
theorem Z_256 : Z[256]? = some (.int .i64 0) := by simp [Z]
theorem Z_257 : Z[257]? = some (.int .i64 0) := by simp [Z]
theorem Z_258 : Z[258]? = some (.int .i64 0) := by simp [Z]
theorem Z_259 : Z[259]? = some (.int .i64 0) := by simp [Z]

theorem cell_of_block {w : World} {b i : Nat} {cs : Array Value} {t : TypeId} {z : Nat × Nat} (h : w.heap[b]? = some (.cells cs t z)) : w.cell? ⟨b, i, none⟩ = cs[i]? := by simp [World.cell?, h]

set_option maxRecDepth 100000 in
set_option maxHeartbeats 1000000 in
theorem new_ok (s o : Nat) (w : World) (h1 : 2 ≤ s) (h2 : s ≤ 256) (h3 : o ≤ 281474976710656) :
    Calls Try.prog 11 #[.int .i64 s, .int .i64 o] w fun e w' => e = .returned (.tuple #[.pointer (some ⟨w.heap.size, 0, none⟩), .int .i64 0]) ∧ IsBuf w' w.heap.size s o [] ∧ w.grownBy w' none := by
  have h4 : ¬ (s : Int) < 2 := by omega
  have h5 : ¬ (256 : Int) < s := by omega
  have h6 : ¬ (o : Int) < 0 := by omega
  have h7 : ¬ (281474976710656 : Int) < o := by omega
  have hz := Z_run
  have hs := Z_size
  go_enter Try.func11, Try.ntmps11
  go_wp2_with fail
  go_ret2
  refine ⟨rfl, ⟨⟨fun _ => 0, 0, ?_, by omega, fun i h => by simp at h⟩, h1, h2, by simp, by simpa using h3⟩, World.grownBy_alloc _ _ _⟩
  have hb := heap_alloc_new w (.cells ((Z.setIfInBounds 256 (.int .i64 s)).setIfInBounds 259 (.int .i64 o)) 61)
  refine ⟨⟨_, hb, by simp [hs]⟩, fun i hi => ?_, ?_, ?_, ?_, ?_⟩ <;> rw [cell_of_block hb]
  · rw [Array.getElem?_setIfInBounds_ne (by omega), Array.getElem?_setIfInBounds_ne (by omega), Z_ring i hi]; rfl
  · rw [Array.getElem?_setIfInBounds_ne (by omega)]; simp [hs]
  · rw [Array.getElem?_setIfInBounds_ne (by omega), Array.getElem?_setIfInBounds_ne (by omega), Z_257]; rfl
  · rw [Array.getElem?_setIfInBounds_ne (by omega), Array.getElem?_setIfInBounds_ne (by omega), Z_258]; rfl
  · simp [hs]
end Go.Proofs.Ytadoobkieehajaa
