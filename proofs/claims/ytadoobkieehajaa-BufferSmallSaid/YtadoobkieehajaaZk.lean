/- The contracts of a buffer that is none: all its cells are zero. -/
import Derived.Test.YtadoobkieehajaaZg
namespace Go.Proofs.Ytadoobkieehajaa
open Go.RowKit Go.Shelf

def Zero (w : World) (a : Nat) : Prop := w.heap[a]? = some (.cells Z 61)
theorem Zero.grown {w w' : World} {a : Nat} {row : Option Nat} (h : Zero w a) (k : w.grownBy w' row) (hr : some a ≠ row) : Zero w' a := (k.block a (Array.getElem?_eq_some_iff.1 h).1 hr).trans h
theorem Zero.alloc {w : World} {a : Nat} (h : Zero w a) (o : Obj) : Zero (w.alloc o) a := h.grown (World.grownBy_alloc w o none) (by simp)
theorem Zero.drewN {w : World} {a : Nat} (h : Zero w a) (m : Nat) : Zero (w.drewN m) a := by unfold Zero; rw [World.heap_drewN]; exact h
theorem Zero.size {w : World} {a : Nat} (h : Zero w a) : w.cell? ⟨a, 256, none⟩ = some (.int .i64 0) := (cell_of_block h).trans Z_256
theorem Zero.held {w : World} {a : Nat} (h : Zero w a) : w.cell? ⟨a, 258, none⟩ = some (.int .i64 0) := (cell_of_block h).trans Z_258

theorem none_zero (a : Nat) (w : World) (h : Zero w a) : Calls Try.prog 29 #[.pointer (some ⟨a, 0, none⟩)] w fun e w' => e = .returned (.bool true) ∧ ∃ m, w' = w.drewN m := by
  have h1 := h.size
  clear h
  go_enter Try.func29, Try.ntmps29
  go_wp2
  go_ret
  exact ⟨rfl, 0, rfl⟩

theorem put_zero (a : Nat) (c : UInt8) (w : World) (h : Zero w a) :
    Calls Try.prog 17 #[.pointer (some ⟨a, 0, none⟩), .int .u8 c.toNat] w fun e w' => e = .returned (.int .i64 1) ∧ ∃ m, w' = w.drewN m := by
  go_enter Try.func17, Try.ntmps17
  go_wp2_with fail
  refine (none_zero a _ (by first | exact h | exact h.alloc _ | exact (h.alloc _).alloc _)).mono ?_
  rintro e w1 ⟨rfl, m1, rfl⟩
  go_wp2_with fail
  go_ret
  exact ⟨rfl, _, rfl⟩

theorem size_zero (a : Nat) (w : World) (h : Zero w a) :
    Calls Try.prog 21 #[.pointer (some ⟨a, 0, none⟩)] w fun e w' => e = .returned (.int .i64 0) ∧ ∃ m, w' = w.drewN m := by
  go_enter Try.func21, Try.ntmps21
  go_wp2_with fail
  refine (none_zero a _ (by first | exact h | exact h.alloc _ | exact (h.alloc _).alloc _)).mono ?_
  rintro e w1 ⟨rfl, m1, rfl⟩
  go_wp2_with fail
  go_ret
  exact ⟨rfl, _, rfl⟩

theorem part_zero (a : Nat) (w : World) (h : Zero w a) :
    Calls Try.prog 18 #[.pointer (some ⟨a, 0, none⟩)] w fun e w' => e = .returned (.agg #[.int .i64 0, .int .i64 0]) ∧ w.grownBy w' none := by
  go_enter Try.func18, Try.ntmps18
  go_wp2_with fail
  refine (none_zero a _ (by first | exact h | exact h.alloc _ | exact (h.alloc _).alloc _)).mono ?_
  rintro e w1 ⟨rfl, m1, rfl⟩
  go_wp2_with fail
  refine bodyPost_ret (v := .agg #[.int .i64 0, .int .i64 0]) (by simp [results, Try.results18, go_sem]) rfl ⟨rfl, ?_⟩
  refine grown_of_below _ ?_
  exact Below.setCell (Below.setCell (below_drewN ((Below.refl _ _).alloc (Nat.le_refl _) _) _) (by exact Nat.le_refl _) _) (by exact Nat.le_refl _) _

theorem at_zero (a : Nat) (i : Int) (w : World) (h : Zero w a) :
    Calls Try.prog 22 #[.pointer (some ⟨a, 0, none⟩), .int .i64 i] w fun e w' => e = .returned (.tuple #[.int .u8 0, .bool false]) ∧ ∃ m, w' = w.drewN m := by
  go_enter Try.func22, Try.ntmps22
  go_wp2_with fail
  refine (none_zero a _ (by first | exact h | exact h.alloc _ | exact (h.alloc _).alloc _)).mono ?_
  rintro e w1 ⟨rfl, m1, rfl⟩
  go_wp2_with fail
  go_ret2
  exact ⟨rfl, _, rfl⟩

theorem discard_zero (a : Nat) (w : World) (h : Zero w a) :
    Calls Try.prog 16 #[.pointer (some ⟨a, 0, none⟩)] w fun e w' => e = .returned (.tuple #[.agg #[.int .i64 0, .int .i64 0], .int .i64 1]) ∧ w.grownBy w' none := by
  go_enter Try.func16, Try.ntmps16
  go_wp2_with fail
  refine (none_zero a _ (by first | exact h | exact h.alloc _ | exact (h.alloc _).alloc _)).mono ?_
  rintro e w1 ⟨rfl, m1, rfl⟩
  go_wp2_with fail
  refine bodyPost_ret (v := .tuple #[.agg #[.int .i64 0, .int .i64 0], .int .i64 1]) (by simp [results, Try.results16, go_sem]) rfl ⟨rfl, ?_⟩
  exact grown_setNew (grown_setNew (grown_draws (grown_alloc (grown_refl _ _) _) _) (Nat.le_refl _) _ _) (Nat.le_refl _) _ _

theorem copy_zero (a : Nat) (w : World) (h : Zero w a) : Calls Try.prog 26 #[.pointer (some ⟨a, 0, none⟩)] w fun e w' => e = .returned (.pointer none) ∧ ∃ m, w' = w.drewN m := by
  go_enter Try.func26, Try.ntmps26
  go_wp2_with fail
  refine (none_zero a _ (by first | exact h | exact h.alloc _ | exact (h.alloc _).alloc _)).mono ?_
  rintro e w1 ⟨rfl, m1, rfl⟩
  go_wp2_with fail
  go_ret
  exact ⟨rfl, _, rfl⟩

theorem bytes_zero (a : Nat) (w : World) (h : Zero w a) :
    Calls Try.prog 15 #[.pointer (some ⟨a, 0, none⟩)] w fun e w' => e = .returned (.slice none 0 0) ∧ ∃ m, w' = w.drewN m := by
  go_enter Try.func15, Try.ntmps15
  go_wp2_with fail
  refine (none_zero a _ (by first | exact h | exact h.alloc _ | exact (h.alloc _).alloc _)).mono ?_
  rintro e w1 ⟨rfl, m1, rfl⟩
  go_wp2_with fail
  go_ret
  exact ⟨rfl, _, rfl⟩

theorem take_zero (a : Nat) (n : Int) (w : World) (h : Zero w a) :
    Calls Try.prog 13 #[.pointer (some ⟨a, 0, none⟩), .int .i64 n] w fun e w' => e = .returned (.tuple #[.slice none 0 0, .agg #[.int .i64 0, .int .i64 0], .int .i64 1]) ∧ w.grownBy w' none := by
  go_enter Try.func13, Try.ntmps13
  go_wp2_with fail
  refine (none_zero a _ (by first | exact h | exact h.alloc _ | exact (h.alloc _).alloc _)).mono ?_
  rintro e w1 ⟨rfl, m1, rfl⟩
  go_wp2_with fail
  refine bodyPost_ret (v := .tuple #[.slice none 0 0, .agg #[.int .i64 0, .int .i64 0], .int .i64 1]) (by simp [results, Try.results13, go_sem]) rfl ⟨rfl, ?_⟩
  exact grown_setNew (grown_setNew (grown_draws (grown_alloc (grown_refl _ _) _) _) (Nat.le_refl _) _ _) (Nat.le_refl _) _ _

theorem find_zero (a : Nat) (ad : Option Addr) (len cap : Nat) (i : Int) (w : World) (h : Zero w a) :
    Calls Try.prog 23 #[.pointer (some ⟨a, 0, none⟩), .slice ad len cap, .int .i64 i] w fun e w' => e = .returned (.int .i64 (-1)) ∧ w.grownBy w' none := by
  go_enter Try.func23, Try.ntmps23
  go_wp2_with fail
  go_step3
  go_wp2_with fail
  refine (none_zero a _ (by first | exact h | exact h.alloc _ | exact (h.alloc _).alloc _)).mono ?_
  rintro e w1 ⟨rfl, m1, rfl⟩
  go_wp2_with fail
  rw [Exit.noGoto_ret]
  go_ret
  exact ⟨rfl, grown_draws (grown_alloc (grown_refl _ _) _) _⟩

theorem full_zero (a : Nat) (w : World) (h : Zero w a) : Calls Try.prog 14 #[.pointer (some ⟨a, 0, none⟩)] w fun e w' => e = .returned (.bool false) ∧ ∃ m, w' = w.drewN m := by
  have h1 := h.size
  have h2 := h.held
  go_enter Try.func14, Try.ntmps14
  go_wp2_with fail
  go_quiet ((go_at_call 29; exact Calls.quiet_of (none_zero a _ (h.drewN _))))
  go_wp2
  go_ret
  exact ⟨rfl, _, rfl⟩

/-- No buffer: nil, or one that is all zero. -/
def NoBuf (w : World) (v : Value) : Prop := v = .pointer none ∨ ∃ a, v = .pointer (some ⟨a, 0, none⟩) ∧ Zero w a
theorem NoBuf.grown {w w' : World} {v : Value} (h : NoBuf w v) (k : w.grownBy w' none) : NoBuf w' v := by
  rcases h with rfl | ⟨a, rfl, h⟩
  · exact .inl rfl
  · exact .inr ⟨a, rfl, h.grown k (by simp)⟩
theorem put_no (v : Value) (c : UInt8) (w : World) (h : NoBuf w v) : Calls Try.prog 17 #[v, .int .u8 c.toNat] w fun e w' => e = .returned (.int .i64 1) ∧ w.grownBy w' none := by
  rcases h with rfl | ⟨a, rfl, h⟩
  · exact (put_nil c w).mono fun e w' ⟨h1, m, h2⟩ => ⟨h1, by rw [h2]; exact grown_drewN _ _ _⟩
  · exact (put_zero a c w h).mono fun e w' ⟨h1, m, h2⟩ => ⟨h1, by rw [h2]; exact grown_drewN _ _ _⟩
theorem size_no (v : Value) (w : World) (h : NoBuf w v) : Calls Try.prog 21 #[v] w fun e w' => e = .returned (.int .i64 0) ∧ w.grownBy w' none := by
  rcases h with rfl | ⟨a, rfl, h⟩
  · exact (size_nil w).mono fun e w' ⟨h1, m, h2⟩ => ⟨h1, by rw [h2]; exact grown_drewN _ _ _⟩
  · exact (size_zero a w h).mono fun e w' ⟨h1, m, h2⟩ => ⟨h1, by rw [h2]; exact grown_drewN _ _ _⟩
theorem part_no (v : Value) (w : World) (h : NoBuf w v) : Calls Try.prog 18 #[v] w fun e w' => e = .returned (.agg #[.int .i64 0, .int .i64 0]) ∧ w.grownBy w' none := by
  rcases h with rfl | ⟨a, rfl, h⟩
  · exact part_nil w
  · exact part_zero a w h
theorem at_no (v : Value) (i : Int) (w : World) (h : NoBuf w v) : Calls Try.prog 22 #[v, .int .i64 i] w fun e w' => e = .returned (.tuple #[.int .u8 0, .bool false]) ∧ w.grownBy w' none := by
  rcases h with rfl | ⟨a, rfl, h⟩
  · exact (at_nil i w).mono fun e w' ⟨h1, m, h2⟩ => ⟨h1, by rw [h2]; exact grown_drewN _ _ _⟩
  · exact (at_zero a i w h).mono fun e w' ⟨h1, m, h2⟩ => ⟨h1, by rw [h2]; exact grown_drewN _ _ _⟩
theorem discard_no (v : Value) (w : World) (h : NoBuf w v) : Calls Try.prog 16 #[v] w fun e w' => e = .returned (.tuple #[.agg #[.int .i64 0, .int .i64 0], .int .i64 1]) ∧ w.grownBy w' none := by
  rcases h with rfl | ⟨a, rfl, h⟩
  · exact discard_nil w
  · exact discard_zero a w h
theorem copy_no (v : Value) (w : World) (h : NoBuf w v) : Calls Try.prog 26 #[v] w fun e w' => e = .returned (.pointer none) ∧ w.grownBy w' none := by
  rcases h with rfl | ⟨a, rfl, h⟩
  · exact (copy_nil w).mono fun e w' ⟨h1, m, h2⟩ => ⟨h1, by rw [h2]; exact grown_drewN _ _ _⟩
  · exact (copy_zero a w h).mono fun e w' ⟨h1, m, h2⟩ => ⟨h1, by rw [h2]; exact grown_drewN _ _ _⟩
theorem bytes_no (v : Value) (w : World) (h : NoBuf w v) : Calls Try.prog 15 #[v] w fun e w' => e = .returned (.slice none 0 0) ∧ w.grownBy w' none := by
  rcases h with rfl | ⟨a, rfl, h⟩
  · exact (bytes_nil w).mono fun e w' ⟨h1, m, h2⟩ => ⟨h1, by rw [h2]; exact grown_drewN _ _ _⟩
  · exact (bytes_zero a w h).mono fun e w' ⟨h1, m, h2⟩ => ⟨h1, by rw [h2]; exact grown_drewN _ _ _⟩
theorem take_no (v : Value) (n : Int) (w : World) (h : NoBuf w v) : Calls Try.prog 13 #[v, .int .i64 n] w fun e w' => e = .returned (.tuple #[.slice none 0 0, .agg #[.int .i64 0, .int .i64 0], .int .i64 1]) ∧ w.grownBy w' none := by
  rcases h with rfl | ⟨a, rfl, h⟩
  · exact take_nil n w
  · exact take_zero a n w h
theorem find_no (v : Value) (ad : Option Addr) (len cap : Nat) (i : Int) (w : World) (h : NoBuf w v) : Calls Try.prog 23 #[v, .slice ad len cap, .int .i64 i] w fun e w' => e = .returned (.int .i64 (-1)) ∧ w.grownBy w' none := by
  rcases h with rfl | ⟨a, rfl, h⟩
  · exact find_nil ad len cap i w
  · exact find_zero a ad len cap i w h
theorem full_no (v : Value) (w : World) (h : NoBuf w v) : Calls Try.prog 14 #[v] w fun e w' => e = .returned (.bool false) ∧ w.grownBy w' none := by
  rcases h with rfl | ⟨a, rfl, h⟩
  · exact (full_nil w).mono fun e w' ⟨h1, m, h2⟩ => ⟨h1, by rw [h2]; exact grown_drewN _ _ _⟩
  · exact (full_zero a w h).mono fun e w' ⟨h1, m, h2⟩ => ⟨h1, by rw [h2]; exact grown_drewN _ _ _⟩

end Go.Proofs.Ytadoobkieehajaa
