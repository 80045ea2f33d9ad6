/- The contracts of the operators' functions, and of what uses them. -/
import Derived.Test.YtajipgcnpemifaaI
namespace Go.Proofs.Ytajipgcnpemifaa
open Go.RowKit Ieee

theorem add_any (x y : Nat) (w : World) :
    Calls Try.prog 44 #[.float .f64 x, .float .f64 y] w fun e w' => ∃ r, e = .returned (.float .f64 r) ∧ canonb r = fop .add x y ∧ r < 2 ^ 64 ∧ Below w.heap.size w w' := by
  obtain ⟨r, w1, h, h1, h2, h3, h4⟩ := op_run .add (by simp [Arithmetic]) x y w
  have H1 := Lib.hid h1; have H2 := Lib.hid h2; have H3 := Lib.hid h4
  clear h1 h2 h4
  go_enter Try.func44, Try.ntmps44
  go_wp2
  go_ret
  exact ⟨r, rfl, H1.out, H2.out, h3⟩
theorem sub_any (x y : Nat) (w : World) :
    Calls Try.prog 45 #[.float .f64 x, .float .f64 y] w fun e w' => ∃ r, e = .returned (.float .f64 r) ∧ canonb r = fop .sub x y ∧ r < 2 ^ 64 ∧ Below w.heap.size w w' := by
  obtain ⟨r, w1, h, h1, h2, h3, h4⟩ := op_run .sub (by simp [Arithmetic]) x y w
  have H1 := Lib.hid h1; have H2 := Lib.hid h2; have H3 := Lib.hid h4
  clear h1 h2 h4
  go_enter Try.func45, Try.ntmps45
  go_wp2
  go_ret
  exact ⟨r, rfl, H1.out, H2.out, h3⟩
theorem mul_any (x y : Nat) (w : World) :
    Calls Try.prog 46 #[.float .f64 x, .float .f64 y] w fun e w' => ∃ r, e = .returned (.float .f64 r) ∧ canonb r = fop .mul x y ∧ r < 2 ^ 64 ∧ Below w.heap.size w w' := by
  obtain ⟨r, w1, h, h1, h2, h3, h4⟩ := op_run .mul (by simp [Arithmetic]) x y w
  have H1 := Lib.hid h1; have H2 := Lib.hid h2; have H3 := Lib.hid h4
  clear h1 h2 h4
  go_enter Try.func46, Try.ntmps46
  go_wp2
  go_ret
  exact ⟨r, rfl, H1.out, H2.out, h3⟩

/-- The one of two numbers that comes first. -/
def leastb (x y : Nat) : Nat := if nanq x || nanq y then nanb else if plc x < plc y then x else y

theorem cmpi_lt {a b : Int} (h : a < b) : decide (cmpi a b < 0) = true := by unfold cmpi; rw [if_pos h]; rfl
theorem cmpi_ge {a b : Int} (h : ¬ a < b) : decide (cmpi a b < 0) = false := by
  unfold cmpi; rw [if_neg h]; split <;> rfl

theorem least_any (x y : Nat) (w : World) (hx : x < 2 ^ 64) (hy : y < 2 ^ 64) :
    Calls Try.prog 48 #[.float .f64 x, .float .f64 y] w fun e w' => e = .returned (.float .f64 (leastb x y)) ∧ w = w' := by
  have h1 := ne_self x hx
  have h2 := ne_self y hy
  unfold leastb
  cases hq : nanq x <;> rw [hq] at h1
  · cases hr : nanq y <;> rw [hr] at h2
    · have c1 := canonb_num hq
      have c2 := canonb_num hr
      have hcmp := fun W => compare_any x y W hx hy
      rw [c1, c2] at hcmp
      clear c1 c2 hq hr
      by_cases hlt : plc x < plc y
      · have hd := cmpi_lt hlt
        rw [if_neg (by decide), if_pos hlt]
        have Hl := Lib.hid hlt
        clear hlt
        go_enter Try.func48, Try.ntmps48
        go_wp2_with (go_at_call 27; refine (hcmp _).mono ?_; rintro e w' ⟨rfl, rfl⟩)
        go_ret
        exact ⟨rfl, rfl⟩
      · have hd := cmpi_ge hlt
        rw [if_neg (by decide), if_neg hlt]
        have Hl := Lib.hid hlt
        clear hlt
        go_enter Try.func48, Try.ntmps48
        go_wp2_with (go_at_call 27; refine (hcmp _).mono ?_; rintro e w' ⟨rfl, rfl⟩)
        go_ret
        exact ⟨rfl, rfl⟩
    · clear hq hr
      rw [if_pos (by decide)]
      go_enter Try.func48, Try.ntmps48
      go_wp2_with (go_at_call 39; refine (nan_any _).mono ?_; rintro e w' ⟨rfl, rfl⟩)
      go_ret
      exact ⟨rfl, rfl⟩
  · clear hq h2
    rw [if_pos (by simp)]
    go_enter Try.func48, Try.ntmps48
    go_wp2_with (go_at_call 39; refine (nan_any _).mono ?_; rintro e w' ⟨rfl, rfl⟩)
    go_ret
    exact ⟨rfl, rfl⟩

theorem nanb_lt : nanb < 2 ^ 64 := by decide
theorem leastb_lt (x y : Nat) (hx : x < 2 ^ 64) (hy : y < 2 ^ 64) : leastb x y < 2 ^ 64 := by
  unfold leastb
  have := nanb_lt
  split
  · exact this
  · split
    · exact hx
    · exact hy

theorem greatest_any (x y : Nat) (w : World) (hx : x < 2 ^ 64) (hy : y < 2 ^ 64) :
    Calls Try.prog 49 #[.float .f64 x, .float .f64 y] w fun e w' => e = .returned (.float .f64 (turned (leastb (turned x) (turned y)))) ∧ w = w' := by
  have h1 := neg_run x hx
  have h2 := neg_run y hy
  have tx := turned_lt x hx
  have ty := turned_lt y hy
  have h3 := neg_run _ (leastb_lt _ _ tx ty)
  go_enter Try.func49, Try.ntmps49
  go_wp2_with (go_at_call 48; refine (least_any _ _ _ tx ty).mono ?_; rintro e w' ⟨rfl, rfl⟩)
  go_ret
  exact ⟨rfl, rfl⟩

/-- What an operator gives, by its number. -/
def dob (op : Nat) (x y : Nat) : Nat :=
  match op with
  | 1 => canonb (turned x)
  | 2 => fop .add x y
  | 3 => fop .sub x y
  | 4 => fop .mul x y
  | 5 => fop .quo x y
  | 6 => canonb (leastb x y)
  | 7 => canonb (turned (leastb (turned x) (turned y)))
  | _ => 0

theorem do_1 (x y : Nat) (w : World) (hx : x < 2 ^ 64) (hy : y < 2 ^ 64) :
    Calls Try.prog 34 #[.int .u8 1, .float .f64 x, .float .f64 y] w fun e w' => e = .returned (.float .f64 (dob 1 x y)) ∧ Below w.heap.size w w' := by
  have hi : ∀ w, (Instr.index 62 (.agg tableV) (.int .u8 1)).run Try.prog w = .ok (.agg #[Value.string { data := #[45] }, Value.func (Fn.func 43) #[] #[]]) w := fun _ => by kernel_rfl
  have hf : ∀ w, (Instr.field 61 (.agg #[Value.string { data := #[45] }, Value.func (Fn.func 43) #[] #[]]) 1).run Try.prog w = .ok (Value.func (Fn.func 43) #[] #[]) w := fun _ => by kernel_rfl
  go_enter Try.func34, Try.ntmps34
  go_wp2_with (first | (go_at_call 35; refine (table_any _).mono ?_; rintro e w' ⟨rfl, rfl⟩) | (go_at_call 43; refine (neg_any _ _ _ hx).mono ?_; rintro e w' ⟨rfl, rfl⟩) | (go_at_call 21; refine (canon_any _ _ (turned_lt _ hx)).mono ?_; rintro e w' ⟨rfl, rfl⟩))
  go_ret
  exact ⟨rfl, (Below.refl _ w).alloc (Nat.le_refl _) _⟩

theorem do_2 (x y : Nat) (w : World) (hx : x < 2 ^ 64) (hy : y < 2 ^ 64) :
    Calls Try.prog 34 #[.int .u8 2, .float .f64 x, .float .f64 y] w fun e w' => e = .returned (.float .f64 (dob 2 x y)) ∧ Below w.heap.size w w' := by
  have hi : ∀ w, (Instr.index 62 (.agg tableV) (.int .u8 2)).run Try.prog w = .ok (.agg #[Value.string { data := #[43] }, Value.func (Fn.func 44) #[] #[]]) w := fun _ => by kernel_rfl
  have hf : ∀ w, (Instr.field 61 (.agg #[Value.string { data := #[43] }, Value.func (Fn.func 44) #[] #[]]) 1).run Try.prog w = .ok (Value.func (Fn.func 44) #[] #[]) w := fun _ => by kernel_rfl
  go_enter Try.func34, Try.ntmps34
  go_wp2_with (first | (go_at_call 35; refine (table_any _).mono ?_; rintro e w' ⟨rfl, rfl⟩) | (go_at_call 44; refine (add_any _ _ _).mono ?_; rintro e w1 ⟨r, rfl, hr, hlt, hB⟩; have Hr := Lib.hid hr; clear hr; have hB' := (((Below.refl _ w).alloc (Nat.le_refl _) _).trans (hB.mono (by simp)))) | (go_at_call 21; refine (canon_any _ _ hlt).mono ?_; rintro e w' ⟨rfl, rfl⟩))
  go_ret
  exact ⟨ret_float Hr.out, hB'⟩

theorem do_3 (x y : Nat) (w : World) (hx : x < 2 ^ 64) (hy : y < 2 ^ 64) :
    Calls Try.prog 34 #[.int .u8 3, .float .f64 x, .float .f64 y] w fun e w' => e = .returned (.float .f64 (dob 3 x y)) ∧ Below w.heap.size w w' := by
  have hi : ∀ w, (Instr.index 62 (.agg tableV) (.int .u8 3)).run Try.prog w = .ok (.agg #[Value.string { data := #[45] }, Value.func (Fn.func 45) #[] #[]]) w := fun _ => by kernel_rfl
  have hf : ∀ w, (Instr.field 61 (.agg #[Value.string { data := #[45] }, Value.func (Fn.func 45) #[] #[]]) 1).run Try.prog w = .ok (Value.func (Fn.func 45) #[] #[]) w := fun _ => by kernel_rfl
  go_enter Try.func34, Try.ntmps34
  go_wp2_with (first | (go_at_call 35; refine (table_any _).mono ?_; rintro e w' ⟨rfl, rfl⟩) | (go_at_call 45; refine (sub_any _ _ _).mono ?_; rintro e w1 ⟨r, rfl, hr, hlt, hB⟩; have Hr := Lib.hid hr; clear hr; have hB' := (((Below.refl _ w).alloc (Nat.le_refl _) _).trans (hB.mono (by simp)))) | (go_at_call 21; refine (canon_any _ _ hlt).mono ?_; rintro e w' ⟨rfl, rfl⟩))
  go_ret
  exact ⟨ret_float Hr.out, hB'⟩

theorem do_4 (x y : Nat) (w : World) (hx : x < 2 ^ 64) (hy : y < 2 ^ 64) :
    Calls Try.prog 34 #[.int .u8 4, .float .f64 x, .float .f64 y] w fun e w' => e = .returned (.float .f64 (dob 4 x y)) ∧ Below w.heap.size w w' := by
  have hi : ∀ w, (Instr.index 62 (.agg tableV) (.int .u8 4)).run Try.prog w = .ok (.agg #[Value.string { data := #[42] }, Value.func (Fn.func 46) #[] #[]]) w := fun _ => by kernel_rfl
  have hf : ∀ w, (Instr.field 61 (.agg #[Value.string { data := #[42] }, Value.func (Fn.func 46) #[] #[]]) 1).run Try.prog w = .ok (Value.func (Fn.func 46) #[] #[]) w := fun _ => by kernel_rfl
  go_enter Try.func34, Try.ntmps34
  go_wp2_with (first | (go_at_call 35; refine (table_any _).mono ?_; rintro e w' ⟨rfl, rfl⟩) | (go_at_call 46; refine (mul_any _ _ _).mono ?_; rintro e w1 ⟨r, rfl, hr, hlt, hB⟩; have Hr := Lib.hid hr; clear hr; have hB' := (((Below.refl _ w).alloc (Nat.le_refl _) _).trans (hB.mono (by simp)))) | (go_at_call 21; refine (canon_any _ _ hlt).mono ?_; rintro e w' ⟨rfl, rfl⟩))
  go_ret
  exact ⟨ret_float Hr.out, hB'⟩

theorem do_5 (x y : Nat) (w : World) (hx : x < 2 ^ 64) (hy : y < 2 ^ 64) :
    Calls Try.prog 34 #[.int .u8 5, .float .f64 x, .float .f64 y] w fun e w' => e = .returned (.float .f64 (dob 5 x y)) ∧ Below w.heap.size w w' := by
  have hi : ∀ w, (Instr.index 62 (.agg tableV) (.int .u8 5)).run Try.prog w = .ok (.agg #[Value.string { data := #[47] }, Value.func (Fn.func 47) #[] #[]]) w := fun _ => by kernel_rfl
  have hf : ∀ w, (Instr.field 61 (.agg #[Value.string { data := #[47] }, Value.func (Fn.func 47) #[] #[]]) 1).run Try.prog w = .ok (Value.func (Fn.func 47) #[] #[]) w := fun _ => by kernel_rfl
  go_enter Try.func34, Try.ntmps34
  go_wp2_with (first | (go_at_call 35; refine (table_any _).mono ?_; rintro e w' ⟨rfl, rfl⟩) | (go_at_call 47; refine (quo_any _ _ _).mono ?_; rintro e w1 ⟨r, rfl, hr, hlt, hB⟩; have Hr := Lib.hid hr; clear hr; have hB' := (((Below.refl _ w).alloc (Nat.le_refl _) _).trans (hB.mono (by simp)))) | (go_at_call 21; refine (canon_any _ _ hlt).mono ?_; rintro e w' ⟨rfl, rfl⟩))
  go_ret
  exact ⟨ret_float Hr.out, hB'⟩

theorem do_6 (x y : Nat) (w : World) (hx : x < 2 ^ 64) (hy : y < 2 ^ 64) :
    Calls Try.prog 34 #[.int .u8 6, .float .f64 x, .float .f64 y] w fun e w' => e = .returned (.float .f64 (dob 6 x y)) ∧ Below w.heap.size w w' := by
  have hi : ∀ w, (Instr.index 62 (.agg tableV) (.int .u8 6)).run Try.prog w = .ok (.agg #[Value.string { data := #[109,105,110] }, Value.func (Fn.func 48) #[] #[]]) w := fun _ => by kernel_rfl
  have hf : ∀ w, (Instr.field 61 (.agg #[Value.string { data := #[109,105,110] }, Value.func (Fn.func 48) #[] #[]]) 1).run Try.prog w = .ok (Value.func (Fn.func 48) #[] #[]) w := fun _ => by kernel_rfl
  go_enter Try.func34, Try.ntmps34
  go_wp2_with (first | (go_at_call 35; refine (table_any _).mono ?_; rintro e w' ⟨rfl, rfl⟩) | (go_at_call 48; refine (least_any _ _ _ hx hy).mono ?_; rintro e w' ⟨rfl, rfl⟩) | (go_at_call 21; refine (canon_any _ _ (leastb_lt _ _ hx hy)).mono ?_; rintro e w' ⟨rfl, rfl⟩))
  go_ret
  exact ⟨rfl, (Below.refl _ w).alloc (Nat.le_refl _) _⟩

theorem do_7 (x y : Nat) (w : World) (hx : x < 2 ^ 64) (hy : y < 2 ^ 64) :
    Calls Try.prog 34 #[.int .u8 7, .float .f64 x, .float .f64 y] w fun e w' => e = .returned (.float .f64 (dob 7 x y)) ∧ Below w.heap.size w w' := by
  have hi : ∀ w, (Instr.index 62 (.agg tableV) (.int .u8 7)).run Try.prog w = .ok (.agg #[Value.string { data := #[109,97,120] }, Value.func (Fn.func 49) #[] #[]]) w := fun _ => by kernel_rfl
  have hf : ∀ w, (Instr.field 61 (.agg #[Value.string { data := #[109,97,120] }, Value.func (Fn.func 49) #[] #[]]) 1).run Try.prog w = .ok (Value.func (Fn.func 49) #[] #[]) w := fun _ => by kernel_rfl
  go_enter Try.func34, Try.ntmps34
  go_wp2_with (first | (go_at_call 35; refine (table_any _).mono ?_; rintro e w' ⟨rfl, rfl⟩) | (go_at_call 49; refine (greatest_any _ _ _ hx hy).mono ?_; rintro e w' ⟨rfl, rfl⟩) | (go_at_call 21; refine (canon_any _ _ (turned_lt _ (leastb_lt _ _ (turned_lt _ hx) (turned_lt _ hy)))).mono ?_; rintro e w' ⟨rfl, rfl⟩))
  go_ret
  exact ⟨rfl, (Below.refl _ w).alloc (Nat.le_refl _) _⟩

end Go.Proofs.Ytajipgcnpemifaa
