/- The contracts of the operators' functions. -/
import Derived.Test.YtajipgcnpemifaaH
namespace Go.Proofs.Ytajipgcnpemifaa
open Go.RowKit Ieee

theorem write_num (d : Datum) (h : d.isNaN = false) : nanq (double.write d) = false := by
  cases d with
  | nan s t => cases h
  | infinity s => exact word_nan s _ (by rw [double_inf]; exact Nat.le_refl _)
  | number s m p =>
    show nanq (double.nearest s m p) = false
    unfold Format.nearest
    by_cases hm : m = 0
    · rw [if_pos hm]; exact word_nan s 0 (by omega)
    · rw [if_neg hm]
      exact word_nan s _ (by rw [← double_inf]; exact Nat.min_le_right _ _)

theorem sum_num {a b d : Datum} (h : a.sum b = some d) : d.isNaN = false := by
  unfold Datum.sum at h
  split at h
  · cases h
  · cases h
  · split at h
    · cases h; rfl
    · cases h
  · cases h; rfl
  · cases h; rfl
  · cases h; rfl
theorem product_num {a b d : Datum} (h : a.product b = some d) : d.isNaN = false := by
  unfold Datum.product at h
  split at h
  · cases h
  · cases h
  · cases h; rfl
  · split at h
    · cases h
    · cases h; rfl
  · split at h
    · cases h
    · cases h; rfl
  · cases h; rfl
theorem quotient_num {n : Nat} {a b d : Datum} (h : a.quotient n b = some d) : d.isNaN = false := by
  unfold Datum.quotient at h
  split at h
  · cases h
  · cases h
  · cases h
  · cases h; rfl
  · cases h; rfl
  · split at h
    · split at h
      · cases h
      · cases h; rfl
    · cases h; rfl

theorem some_num {op : BinOp} {x y r : Nat} (h : floatBits op .f64 x y = some r) : nanq r = false ∧ r < 2 ^ 64 := by
  refine ⟨?_, ?_⟩
  · unfold floatBits at h
    cases op <;> simp only [] at h <;> first | (cases h; done) | skip
    · change ((double.read x).sum (double.read y)).map double.write = some r at h
      obtain ⟨d, hd, rfl⟩ := Option.map_eq_some_iff.1 h
      exact write_num d (sum_num hd)
    · change ((double.read x).sum (double.read y).opposite).map double.write = some r at h
      obtain ⟨d, hd, rfl⟩ := Option.map_eq_some_iff.1 h
      exact write_num d (sum_num hd)
    · change ((double.read x).product (double.read y)).map double.write = some r at h
      obtain ⟨d, hd, rfl⟩ := Option.map_eq_some_iff.1 h
      exact write_num d (product_num hd)
    · change ((double.read x).quotient (double.fractionBits + 2) (double.read y)).map double.write = some r at h
      obtain ⟨d, hd, rfl⟩ := Option.map_eq_some_iff.1 h
      exact write_num d (quotient_num hd)
  · have := floatBits_wf h
    simp only [Lit.wf] at this
    simpa using this

/-- What an operator gives, a NaN as the one. -/
def fop (op : BinOp) (x y : Nat) : Nat := (floatBits op .f64 x y).getD nanb

def Arithmetic (op : BinOp) : Prop := op = .add ∨ op = .sub ∨ op = .mul ∨ op = .quo

theorem cut_nan (t x y : Nat) : nanq ((Question.nanBits .f64 x y).cut t) = true ∧ (Question.nanBits .f64 x y).cut t < 2 ^ 64 := by
  have e : (Question.nanBits .f64 x y).cut t = t % 2 * 9223372036854775808 + 9218868437227405312 + 1 + t / 2 % 4503599627370495 := rfl
  rw [e]
  have h1 : t % 2 < 2 := Nat.mod_lt _ (by decide)
  have h2 : t / 2 % 4503599627370495 < 4503599627370495 := Nat.mod_lt _ (by decide)
  generalize t % 2 = a at h1 ⊢
  generalize t / 2 % 4503599627370495 = b at h2 ⊢
  unfold nanq
  have : a = 0 ∨ a = 1 := by omega
  rcases this with rfl | rfl
  · exact ⟨decide_eq_true (by omega), by omega⟩
  · exact ⟨decide_eq_true (by omega), by omega⟩

theorem op_run (op : BinOp) (ho : Arithmetic op) (x y : Nat) (w : World) :
    ∃ r w1, (binOp op 24 (.float .f64 x) (.float .f64 y)).run Try.prog w = .ok (.float .f64 r) w1 ∧ canonb r = fop op x y ∧ r < 2 ^ 64 ∧ Below w.heap.size w w1 ∧ w1.heap.size = w.heap.size := by
  unfold fop
  cases h : floatBits op .f64 x y with
  | some r =>
    obtain ⟨a, b⟩ := some_num h
    exact ⟨r, w, run_float_arith w op 24 .f64 x y r h, canonb_num a, b, Below.refl _ _, rfl⟩
  | none =>
    obtain ⟨t, ht⟩ : ∃ t, t = (Question.nanBits .f64 x y).cut (w.tape w.drawn (Question.nanBits .f64 x y)) := ⟨_, rfl⟩
    have e : (binOp op 24 (.float .f64 x) (.float .f64 y)).run Try.prog w = .ok (.float .f64 t) w.drew := by
      rw [ht]
      rcases ho with rfl | rfl | rfl | rfl <;> (unfold floatBits at h; simp only [] at h; simp [binOp, Op.floatArith, h, run_choose, Question.forced] <;> rfl)
    refine ⟨t, w.drew, e, ?_, ?_, (Below.refl _ _).drew, rfl⟩
    · rw [canonb_nan (ht ▸ (cut_nan _ x y).1)]; rfl
    · rw [ht]; exact (cut_nan _ x y).2

theorem quo_any (x y : Nat) (w : World) :
    Calls Try.prog 47 #[.float .f64 x, .float .f64 y] w fun e w' => ∃ r, e = .returned (.float .f64 r) ∧ canonb r = fop .quo x y ∧ r < 2 ^ 64 ∧ Below w.heap.size w w' := by
  obtain ⟨r, w1, h, h1, h2, h3, h4⟩ := op_run .quo (by simp [Arithmetic]) x y w
  have H1 := Lib.hid h1; have H2 := Lib.hid h2; have H3 := Lib.hid h4
  clear h1 h2 h4
  go_enter Try.func47, Try.ntmps47
  go_wp2
  go_ret
  exact ⟨r, rfl, H1.out, H2.out, h3⟩
end Go.Proofs.Ytajipgcnpemifaa
