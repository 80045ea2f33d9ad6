/- The contracts of Name and Apply. -/
import Derived.Test.YtajipgcnpemifaaJ
namespace Go.Proofs.Ytajipgcnpemifaa
open Go.RowKit Ieee

theorem table_size : tableV.size = 16 := rfl

theorem setRow_new (W : World) (z v : Array Value) (t : TypeId) : (W.alloc (.cells z t (0, 0))).setRow W.heap.size v = W.alloc (.cells v t (0, 0)) := by
  unfold World.setRow
  show ({ W with heap := (W.heap.push _).modify _ _ } : World) = { W with heap := W.heap.push _ }
  congr 1
  apply Array.ext
  · simp
  · intro k h1 h2
    simp only [Array.getElem_modify, Array.getElem_push]
    by_cases e : W.heap.size = k
    · simp [e]
    · rw [if_neg e]
      simp at h1
      rw [dif_pos (by omega), dif_pos (by omega)]

theorem heap_new (w : World) (o : Obj) : (w.alloc o).heap[w.heap.size]? = some o := by
  show (w.heap.push o)[_]? = _
  simp
theorem size_new (w : World) (o : Obj) : (w.alloc o).heap.size = w.heap.size + 1 := by
  show (w.heap.push o).size = _
  simp

theorem store_table (w : World) (z : Array Value) (hz : z.size = 16) :
    (storeCells ⟨w.heap.size + 1, 0, none⟩ tableV.toList).run Try.prog ((w.alloc (.cells tableV 62)).alloc (.cells z 62)) = .ok () ((w.alloc (.cells tableV 62)).alloc (.cells tableV 62)) := by
  have e := size_new w (.cells tableV 62)
  have h := run_storeCells_from (P := Try.prog) (w.heap.size + 1) 62 tableV.toList 0 z ((w.alloc (.cells tableV 62)).alloc (.cells z 62)) (by rw [← e]; exact heap_new _ _) (by rw [hz]; rfl) (by decide)
  rw [h, ← e]
  rw [setRow_new]
  rfl

def nameV (k : Nat) : ByteArray :=
  match k with
  | 1 => { data := #[45] }
  | 2 => { data := #[43] }
  | 3 => { data := #[45] }
  | 4 => { data := #[42] }
  | 5 => { data := #[47] }
  | 6 => { data := #[109, 105, 110] }
  | 7 => { data := #[109, 97, 120] }
  | _ => { data := #[] }

theorem cell_table (w : World) (j : Nat) (hj : j < 8) : ((w.alloc (.cells tableV 62)).alloc (.cells tableV 62)).cell? ⟨w.heap.size + 1, j * 2, none⟩ = some (.string (nameV j)) := by
  have e := size_new w (.cells tableV 62)
  have h := heap_new (w.alloc (.cells tableV 62)) (.cells tableV 62)
  rw [e] at h
  simp only [World.cell?, h]
  match j, hj with
  | 0, _ => rfl
  | 1, _ => rfl
  | 2, _ => rfl
  | 3, _ => rfl
  | 4, _ => rfl
  | 5, _ => rfl
  | 6, _ => rfl
  | 7, _ => rfl

set_option maxHeartbeats 1000000 in
theorem name_low (j : Nat) (hj : j < 8) (w : World) :
    Calls Try.prog 13 #[.int .u8 j] w fun e w' => e = .returned (.string (nameV j)) ∧ Below w.heap.size w w' := by
  have hs := store_table w (z := #[Value.string { data := #[] }, Value.nilFunc, Value.string { data := #[] }, Value.nilFunc,
                Value.string { data := #[] }, Value.nilFunc, Value.string { data := #[] }, Value.nilFunc,
                Value.string { data := #[] }, Value.nilFunc, Value.string { data := #[] }, Value.nilFunc,
                Value.string { data := #[] }, Value.nilFunc, Value.string { data := #[] }, Value.nilFunc]) rfl
  have hz := table_size
  have hc := cell_table w j hj
  go_enter Try.func13, Try.ntmps13
  go_wp2_with (go_at_call 35; refine (table_any _).mono ?_; rintro e w' ⟨rfl, rfl⟩)
  go_ret
  exact ⟨rfl, ((Below.refl _ w).alloc (Nat.le_refl _) _).alloc (by simp) _⟩

set_option maxHeartbeats 1000000 in
theorem name_high (z : Int) (hz8 : 8 ≤ z) (hz2 : z < 256) (w : World) :
    Calls Try.prog 13 #[.int .u8 z] w fun e w' => e = .returned (.string { data := #[] }) ∧ Below w.heap.size w w' := by
  have hs := store_table w (z := #[Value.string { data := #[] }, Value.nilFunc, Value.string { data := #[] }, Value.nilFunc,
                Value.string { data := #[] }, Value.nilFunc, Value.string { data := #[] }, Value.nilFunc,
                Value.string { data := #[] }, Value.nilFunc, Value.string { data := #[] }, Value.nilFunc,
                Value.string { data := #[] }, Value.nilFunc, Value.string { data := #[] }, Value.nilFunc]) rfl
  have hz := table_size
  go_enter Try.func13, Try.ntmps13
  go_wp2_with (go_at_call 35; refine (table_any _).mono ?_; rintro e w' ⟨rfl, rfl⟩)
  go_ret
  exact ⟨rfl, ((Below.refl _ w).alloc (Nat.le_refl _) _).alloc (by simp) _⟩

/-- An operator that there is not. -/
def BadOp (z : Int) : Prop := z = 0 ∨ (8 ≤ z ∧ z < 256)

theorem name_bad (z : Int) (h : BadOp z) (w : World) :
    Calls Try.prog 13 #[.int .u8 z] w fun e w' => e = .returned (.string { data := #[] }) ∧ Below w.heap.size w w' := by
  rcases h with rfl | ⟨h1, h2⟩
  · exact name_low 0 (by omega) w
  · exact name_high z h1 h2 w

theorem apply_bad (z : Int) (h : BadOp z) (x y : Nat) (w : World) :
    Calls Try.prog 12 #[.int .u8 z, .float .f64 x, .float .f64 y] w fun e w' => e = .returned (.tuple #[.float .f64 0, .int .i64 2]) ∧ Below w.heap.size w w' := by
  have hn := fun W => name_bad z h W
  have H := Lib.hid h
  clear h
  go_enter Try.func12, Try.ntmps12
  go_wp2_with (go_at_call 13; refine (hn _).mono ?_; rintro e w' ⟨rfl, hB⟩)
  go_ret2
  exact ⟨rfl, hB⟩
theorem apply_1 (x y : Nat) (w : World) (hx : x < 2 ^ 64) (hy : y < 2 ^ 64) :
    Calls Try.prog 12 #[.int .u8 1, .float .f64 x, .float .f64 y] w fun e w' => e = .returned (.tuple #[.float .f64 (dob 1 x y), .int .i64 0]) ∧ Below w.heap.size w w' := by
  have hn : ∀ W, Calls Try.prog 13 #[.int .u8 1] W fun e w' => e = .returned (.string { data := #[45] }) ∧ Below W.heap.size W w' := fun W => name_low 1 (by omega) W
  go_enter Try.func12, Try.ntmps12
  go_wp2_with (first | (go_at_call 13; refine (hn _).mono ?_; rintro e w1 ⟨rfl, hB⟩) | (go_at_call 34; refine (do_1 _ _ _ hx hy).mono ?_; rintro e w2 ⟨rfl, hC⟩))
  go_ret2
  exact ⟨rfl, hB.trans (hC.mono hB.size)⟩
theorem apply_2 (x y : Nat) (w : World) (hx : x < 2 ^ 64) (hy : y < 2 ^ 64) :
    Calls Try.prog 12 #[.int .u8 2, .float .f64 x, .float .f64 y] w fun e w' => e = .returned (.tuple #[.float .f64 (dob 2 x y), .int .i64 0]) ∧ Below w.heap.size w w' := by
  have hn : ∀ W, Calls Try.prog 13 #[.int .u8 2] W fun e w' => e = .returned (.string { data := #[43] }) ∧ Below W.heap.size W w' := fun W => name_low 2 (by omega) W
  go_enter Try.func12, Try.ntmps12
  go_wp2_with (first | (go_at_call 13; refine (hn _).mono ?_; rintro e w1 ⟨rfl, hB⟩) | (go_at_call 34; refine (do_2 _ _ _ hx hy).mono ?_; rintro e w2 ⟨rfl, hC⟩))
  go_ret2
  exact ⟨rfl, hB.trans (hC.mono hB.size)⟩
theorem apply_3 (x y : Nat) (w : World) (hx : x < 2 ^ 64) (hy : y < 2 ^ 64) :
    Calls Try.prog 12 #[.int .u8 3, .float .f64 x, .float .f64 y] w fun e w' => e = .returned (.tuple #[.float .f64 (dob 3 x y), .int .i64 0]) ∧ Below w.heap.size w w' := by
  have hn : ∀ W, Calls Try.prog 13 #[.int .u8 3] W fun e w' => e = .returned (.string { data := #[45] }) ∧ Below W.heap.size W w' := fun W => name_low 3 (by omega) W
  go_enter Try.func12, Try.ntmps12
  go_wp2_with (first | (go_at_call 13; refine (hn _).mono ?_; rintro e w1 ⟨rfl, hB⟩) | (go_at_call 34; refine (do_3 _ _ _ hx hy).mono ?_; rintro e w2 ⟨rfl, hC⟩))
  go_ret2
  exact ⟨rfl, hB.trans (hC.mono hB.size)⟩
theorem apply_4 (x y : Nat) (w : World) (hx : x < 2 ^ 64) (hy : y < 2 ^ 64) :
    Calls Try.prog 12 #[.int .u8 4, .float .f64 x, .float .f64 y] w fun e w' => e = .returned (.tuple #[.float .f64 (dob 4 x y), .int .i64 0]) ∧ Below w.heap.size w w' := by
  have hn : ∀ W, Calls Try.prog 13 #[.int .u8 4] W fun e w' => e = .returned (.string { data := #[42] }) ∧ Below W.heap.size W w' := fun W => name_low 4 (by omega) W
  go_enter Try.func12, Try.ntmps12
  go_wp2_with (first | (go_at_call 13; refine (hn _).mono ?_; rintro e w1 ⟨rfl, hB⟩) | (go_at_call 34; refine (do_4 _ _ _ hx hy).mono ?_; rintro e w2 ⟨rfl, hC⟩))
  go_ret2
  exact ⟨rfl, hB.trans (hC.mono hB.size)⟩
theorem apply_5 (x y : Nat) (w : World) (hx : x < 2 ^ 64) (hy : y < 2 ^ 64) :
    Calls Try.prog 12 #[.int .u8 5, .float .f64 x, .float .f64 y] w fun e w' => e = .returned (.tuple #[.float .f64 (dob 5 x y), .int .i64 0]) ∧ Below w.heap.size w w' := by
  have hn : ∀ W, Calls Try.prog 13 #[.int .u8 5] W fun e w' => e = .returned (.string { data := #[47] }) ∧ Below W.heap.size W w' := fun W => name_low 5 (by omega) W
  go_enter Try.func12, Try.ntmps12
  go_wp2_with (first | (go_at_call 13; refine (hn _).mono ?_; rintro e w1 ⟨rfl, hB⟩) | (go_at_call 34; refine (do_5 _ _ _ hx hy).mono ?_; rintro e w2 ⟨rfl, hC⟩))
  go_ret2
  exact ⟨rfl, hB.trans (hC.mono hB.size)⟩
theorem apply_6 (x y : Nat) (w : World) (hx : x < 2 ^ 64) (hy : y < 2 ^ 64) :
    Calls Try.prog 12 #[.int .u8 6, .float .f64 x, .float .f64 y] w fun e w' => e = .returned (.tuple #[.float .f64 (dob 6 x y), .int .i64 0]) ∧ Below w.heap.size w w' := by
  have hn : ∀ W, Calls Try.prog 13 #[.int .u8 6] W fun e w' => e = .returned (.string { data := #[109,105,110] }) ∧ Below W.heap.size W w' := fun W => name_low 6 (by omega) W
  go_enter Try.func12, Try.ntmps12
  go_wp2_with (first | (go_at_call 13; refine (hn _).mono ?_; rintro e w1 ⟨rfl, hB⟩) | (go_at_call 34; refine (do_6 _ _ _ hx hy).mono ?_; rintro e w2 ⟨rfl, hC⟩))
  go_ret2
  exact ⟨rfl, hB.trans (hC.mono hB.size)⟩
theorem apply_7 (x y : Nat) (w : World) (hx : x < 2 ^ 64) (hy : y < 2 ^ 64) :
    Calls Try.prog 12 #[.int .u8 7, .float .f64 x, .float .f64 y] w fun e w' => e = .returned (.tuple #[.float .f64 (dob 7 x y), .int .i64 0]) ∧ Below w.heap.size w w' := by
  have hn : ∀ W, Calls Try.prog 13 #[.int .u8 7] W fun e w' => e = .returned (.string { data := #[109,97,120] }) ∧ Below W.heap.size W w' := fun W => name_low 7 (by omega) W
  go_enter Try.func12, Try.ntmps12
  go_wp2_with (first | (go_at_call 13; refine (hn _).mono ?_; rintro e w1 ⟨rfl, hB⟩) | (go_at_call 34; refine (do_7 _ _ _ hx hy).mono ?_; rintro e w2 ⟨rfl, hC⟩))
  go_ret2
  exact ⟨rfl, hB.trans (hC.mono hB.size)⟩

theorem apply_good (j : Nat) (h1 : 1 ≤ j) (h7 : j ≤ 7) (x y : Nat) (w : World) (hx : x < 2 ^ 64) (hy : y < 2 ^ 64) :
    Calls Try.prog 12 #[.int .u8 j, .float .f64 x, .float .f64 y] w fun e w' => e = .returned (.tuple #[.float .f64 (dob j x y), .int .i64 0]) ∧ Below w.heap.size w w' := by
  match j, h1, h7 with
  | 1, _, _ => exact apply_1 x y w hx hy
  | 2, _, _ => exact apply_2 x y w hx hy
  | 3, _, _ => exact apply_3 x y w hx hy
  | 4, _, _ => exact apply_4 x y w hx hy
  | 5, _, _ => exact apply_5 x y w hx hy
  | 6, _, _ => exact apply_6 x y w hx hy
  | 7, _, _ => exact apply_7 x y w hx hy
end Go.Proofs.Ytajipgcnpemifaa
