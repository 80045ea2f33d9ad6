/- An argument that is an array of two bytes, opened. -/
import Derived.Test.YtadoobkieehajaaO
import Derived.OpenShut
namespace Go.Proofs.Ytadoobkieehajaa
open Go.RowKit Go.ChangeShapes

theorem open_pair {H : Type} {enc : TypeId × Value → H} {W : World} {r : Reach} {b0 base : Nat} {spare : Nat → Bool} {held : Bool} {v : Value} {d : DataW H} {ps : List MemPlace}
    (hval : Value.okWide Try.prog W r b0 49 v) (hd : DataW.Trod enc Try.prog W base spare held 49 v d ps) : ∃ a b : Int, v = .agg #[.int .u8 a, .int .u8 b] ∧ (Lit.int .u8 a).wf = true ∧ (Lit.int .u8 b).wf = true := by
  have hu : Try.prog.underlying 49 = some (.array 2 5) := by kernel_rfl
  have hc : Try.prog.cellsOf 5 = 1 := by kernel_rfl
  simp only [Value.okWide, hu] at hval
  obtain ⟨cs, rfl, hsz, _⟩ := hval
  obtain ⟨fuel, hf⟩ := hd
  obtain ⟨xs, m, _, _, hl, hx, hi⟩ := DataW.trod_array hu hf
  have hc2 : Try.prog.cellsOf 49 = 2 := by kernel_rfl
  simp only [Value.cells, hc2] at hl
  rw [hc] at hi
  simp only [Value.cells] at hi
  obtain ⟨l⟩ := cs
  match l, hl with
  | [c0, c1], _ =>
    have h0 := hi 0 (by omega)
    have h1 := hi 1 (by omega)
    have e0 : xs[0]? = some (xs[0]'(by omega)) := List.getElem?_eq_getElem _
    have e1 : xs[1]? = some (xs[1]'(by omega)) := List.getElem?_eq_getElem _
    rw [e0] at h0
    rw [e1] at h1
    obtain ⟨n0, q0, _, w0⟩ := DataW.trod_int Try.underlying5 h0
    obtain ⟨n1, q1, _, w1⟩ := DataW.trod_int Try.underlying5 h1
    simp at q0 q1
    exact ⟨n0, n1, by rw [q0, q1], w0, w1⟩
end Go.Proofs.Ytadoobkieehajaa
