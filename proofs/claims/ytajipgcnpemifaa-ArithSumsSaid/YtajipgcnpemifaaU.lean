/- The walk of ArithWrong. -/
import Derived.Test.YtajipgcnpemifaaT
namespace Go.Proofs.Ytajipgcnpemifaa
open Go.RowKit Ieee

theorem min_to (K n : Int) : ∃ m : Int, m ≤ K ∧ (if K < n then K else n) = m := by
  by_cases h : K < n
  · exact ⟨K, Int.le_refl _, by simp [h]⟩
  · exact ⟨n, by omega, by simp [h]⟩
theorem max_to (K n : Int) : ∃ m : Int, K ≤ m ∧ (m = K ∨ m = n) ∧ (if n < K then K else n) = m := by
  by_cases h : n < K
  · exact ⟨K, Int.le_refl _, .inl rfl, by simp [h]⟩
  · exact ⟨n, by omega, .inr rfl, by simp [h]⟩

theorem cell_of {w : World} {g i : Nat} {cs : Array Value} {t : TypeId} {fr : Nat × Nat} (h : w.heap[g]? = some (.cells cs t fr)) : w.cell? ⟨g, i, none⟩ = cs[i]? := by
  simp only [World.cell?, h]; rfl

theorem zero_ne : (FloatKind.f64.format.order 0 0 != some .eq) = false := by kernel_rfl

theorem u8_fits {n : Int} (h : (Lit.int .u8 n).wf = true) : 0 ≤ n ∧ n < 256 := by
  have h2 : IntKind.u8.min ≤ n ∧ n ≤ IntKind.u8.max := by simpa [Lit.wf] using h
  have e1 : IntKind.u8.min = 0 := rfl
  have e2 : IntKind.u8.max = 255 := rfl
  omega
theorem u32_fits {n : Int} (h : (Lit.int .u32 n).wf = true) : 0 ≤ n ∧ n < 4294967296 := by
  have h2 : IntKind.u32.min ≤ n ∧ n ≤ IntKind.u32.max := by simpa [Lit.wf] using h
  have e1 : IntKind.u32.min = 0 := rfl
  have e2 : IntKind.u32.max = 4294967295 := rfl
  omega
theorem u64_fits {n : Int} (h : (Lit.int .u64 n).wf = true) : 0 ≤ n ∧ n < 18446744073709551616 := by
  have h2 : IntKind.u64.min ≤ n ∧ n ≤ IntKind.u64.max := by simpa [Lit.wf] using h
  have e1 : IntKind.u64.min = 0 := rfl
  have e2 : IntKind.u64.max = 18446744073709551615 := rfl
  omega

set_option maxRecDepth 100000 in
set_option maxHeartbeats 4000000 in
theorem wrong_walk (a b op n : Int) (ho : 0 ≤ op) (ho2 : op < 256) (w : World) :
    Calls Try.prog 4 #[.int .u64 a, .int .u64 b, .int .u8 op, .int .i64 n] w fun e w' => e = .returned (.bool true) ∧ Below w.heap.size w w' := by
  obtain ⟨m, hm, hm2, em⟩ := max_to 8 op
  obtain ⟨p, hp, ep⟩ := min_to 0 n
  obtain ⟨q, hq, _, eq⟩ := max_to 25 n
  have b0 : BadOp 0 := .inl rfl
  have b1 : BadOp m := .inr ⟨hm, by omega⟩
  have l0 : BadLaw p := .inl (by omega)
  have l1 : BadLaw q := .inr (by omega)
  have z0 := zero_ne
  go_enter Try.func4, Try.ntmps4
  go_wp2_with fail
  refine (awake_any _).mono ?_
  rintro e w1 ⟨rfl, B1⟩
  go_wp2_with fail
  have B2 := B1.alloc B1.size (.cells #[.int .u8 0, .int .u8 m] 5)
  have hblk := heap_new w1 (.cells #[.int .u8 0, .int .u8 m] 5)
  generalize w1.alloc (.cells #[.int .u8 0, .int .u8 m] 5) = w2 at B2 hblk ⊢
  generalize w1.heap.size = g at hblk ⊢
  clear B1
  go_loopw [36] (fun v wr => ∃ j : Nat, j ≤ 2 ∧ v = .int .i64 j ∧ wr.heap[g]? = some (.cells #[.int .u8 0, .int .u8 m] 5) ∧ Below w.heap.size w wr)
    (fun v _ => 2 - (intOf v).toNat)
  case atStart => exact ⟨0, by omega, rfl, hblk, B2⟩
  case round =>
    obtain ⟨j, hj, rfl, hbk, hBr⟩ := hrel
    have hlt := (Array.getElem?_eq_some_iff.1 hbk).1
    match j, hj with
    | 0, _ =>
      have c0 : wr.cell? ⟨g, 0, none⟩ = some (.int .u8 0) := cell_of hbk
      go_wp2_with fail
      refine (apply_bad _ b0 _ _ _).mono ?_
      rintro e w3 ⟨rfl, hN⟩
      have hbk3 := (hN.block _ hlt).trans hbk
      have hB3 := hBr.trans (hN.mono hBr.size)
      have hz3 := hN.size
      clear hN c0
      go_wp2_with fail
      refine (name_bad _ b0 _).mono ?_
      rintro e w4 ⟨rfl, hN⟩
      have hbk4 := (hN.block _ (Nat.lt_of_lt_of_le hlt hz3)).trans hbk3
      have hB4 := hB3.trans (hN.mono hB3.size)
      go_wp2_with fail
      go_roundw
      case rel => exact ⟨1, by omega, by first | rfl | go_num, hbk4, hB4⟩
      case measure => simp [intOf]
    | 1, _ =>
      have c0 : wr.cell? ⟨g, 1, none⟩ = some (.int .u8 m) := cell_of hbk
      go_wp2_with fail
      refine (apply_bad _ b1 _ _ _).mono ?_
      rintro e w3 ⟨rfl, hN⟩
      have hbk3 := (hN.block _ hlt).trans hbk
      have hB3 := hBr.trans (hN.mono hBr.size)
      have hz3 := hN.size
      clear hN c0
      go_wp2_with fail
      refine (name_bad _ b1 _).mono ?_
      rintro e w4 ⟨rfl, hN⟩
      have hbk4 := (hN.block _ (Nat.lt_of_lt_of_le hlt hz3)).trans hbk3
      have hB4 := hB3.trans (hN.mono hB3.size)
      go_wp2_with fail
      go_roundw
      case rel => exact ⟨2, by omega, by first | rfl | go_num, hbk4, hB4⟩
      case measure => simp [intOf]
    | 2, _ =>
      go_wp2_with fail
      have B3 := hBr.alloc hBr.size (.cells #[.int .i64 p, .int .i64 q] 3)
      have hblk3 := heap_new wr (.cells #[.int .i64 p, .int .i64 q] 3)
      rw [show ((2 : Nat) : Int) = 2 from rfl]
      generalize wr.alloc (.cells #[.int .i64 p, .int .i64 q] 3) = w5 at B3 hblk3 ⊢
      generalize wr.heap.size = g' at hblk3 ⊢
      clear hBr hbk hlt hblk B2
      go_loopw [65] (fun v wt => ∃ j : Nat, j ≤ 2 ∧ v = .int .i64 j ∧ wt.heap[g']? = some (.cells #[.int .i64 p, .int .i64 q] 3) ∧ Below w.heap.size w wt)
        (fun v _ => 2 - (intOf v).toNat)
      case atStart => exact ⟨0, by omega, rfl, hblk3, B3⟩
      case round =>
        clear hblk3 B3
        obtain ⟨j, hj, rfl, hbk, hBr⟩ := hrel
        match j, hj with
        | 0, _ =>
          have c0 : wr.cell? ⟨g', 0, none⟩ = some (.int .i64 p) := cell_of hbk
          go_wp2_with fail
          refine (sides_bad _ l0 _ _ _ _).mono ?_
          rintro e _ ⟨rfl, rfl⟩
          go_wp2_with fail
          refine (holds_bad _ l0 _).mono ?_
          rintro e _ ⟨rfl, rfl⟩
          go_wp2_with fail
          refine (witness_bad _ l0 _).mono ?_
          rintro e _ ⟨rfl, rfl⟩
          go_wp2_with fail
          go_roundw
          case rel => exact ⟨1, by omega, by first | rfl | go_num, hbk, hBr⟩
          case measure => simp [intOf]
        | 1, _ =>
          have c0 : wr.cell? ⟨g', 1, none⟩ = some (.int .i64 q) := cell_of hbk
          go_wp2_with fail
          refine (sides_bad _ l1 _ _ _ _).mono ?_
          rintro e _ ⟨rfl, rfl⟩
          go_wp2_with fail
          refine (holds_bad _ l1 _).mono ?_
          rintro e _ ⟨rfl, rfl⟩
          go_wp2_with fail
          refine (witness_bad _ l1 _).mono ?_
          rintro e _ ⟨rfl, rfl⟩
          go_wp2_with fail
          go_roundw
          case rel => exact ⟨2, by omega, by first | rfl | go_num, hbk, hBr⟩
          case measure => simp [intOf]
        | 2, _ =>
          go_wp2_with fail
          go_ret
          exact ⟨rfl, hBr⟩
        | j + 3, h => omega
    | j + 3, h => omega
end Go.Proofs.Ytajipgcnpemifaa
