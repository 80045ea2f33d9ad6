/- An argument that is a list of acts, opened. -/
import Derived.Test.YtadoobkieehajaaZg
import Derived.OpenShut
import Derived.Lib.SmallJoins
import Derived.Deep.Slices
namespace Go.Proofs.Ytadoobkieehajaa
open Go.RowKit Go.ChangeShapes

theorem cells_at {w : World} {base n : Nat} {a : Addr} {cs : List Value} (h : w.cells? base a n = some cs) : ∀ q, q < n → w.cell? (a.add q) = cs[q]? := by
  unfold World.cells? at h
  split at h
  · exact fun q hq => mapM_some_get h q q (by simp [hq])
  · cases h

theorem underlying57 : Try.prog.underlying 57 = some (.struct #[⟨"Kind", 5, 0, false, "", "", 0⟩, ⟨"C", 5, 1, false, "", "", 1⟩, ⟨"N", 3, 2, false, "", "", 8⟩, ⟨"Bytes", 23, 3, false, "", "", 16⟩]) := by kernel_rfl
theorem underlying55 : Try.prog.underlying 55 = some (.slice 57) := by kernel_rfl

theorem open_act {H : Type} {enc : TypeId × Value → H} {W : World} {base n : Nat} {held : Bool} {a : Addr} {cs : List Value} {x : DataW H × List MemPlace}
    (h1 : W.cells? base a (Try.prog.cellsOf 57) = some cs) (h2 : DataW.trod enc Try.prog W base (fun _ => true) held n 57 cs = some x) :
    ∃ (kind c : UInt8) (nn : Int) (ax : Option Addr) (m cx : Nat) (xs : List UInt8), W.cell? (a.add 0) = some (.int .u8 kind.toNat) ∧ W.cell? (a.add 1) = some (.int .u8 c.toNat) ∧ W.cell? (a.add 2) = some (.int .i64 nn) ∧ W.cell? (a.add 3) = some (.slice ax m cx) ∧ Slc W ax xs ∧ xs.length = m ∧ m ≤ cx := by
  have hc : Try.prog.cellsOf 57 = 4 := by kernel_rfl
  have hc5 : Try.prog.cellsOf 5 = 1 := by kernel_rfl
  have hc3 : Try.prog.cellsOf 3 = 1 := by kernel_rfl
  have hc23 : Try.prog.cellsOf 23 = 1 := by kernel_rfl
  rw [hc] at h1
  have h3 := cells_at h1
  obtain ⟨y0, y1, y2, y3, n', _, hlen, g0, g1, g2, g3⟩   := Go.Joins.trod_struct4 underlying57 h2
  rw [hc] at hlen
  simp only [hc5, hc3, hc23] at g0 g1 g2 g3
  match cs, hlen with
  | [v0, v1, v2, v3], _ =>
    simp only [List.drop_zero, List.drop_succ_cons, List.take_succ_cons, List.take_zero] at g0 g1 g2 g3
    obtain ⟨z0, e0, _, w0⟩ := DataW.trod_int Try.underlying5 g0
    obtain ⟨z1, e1, _, w1⟩ := DataW.trod_int Try.underlying5 g1
    obtain ⟨z2, e2, _, w2⟩ := DataW.trod_int Try.underlying3 g2
    obtain ⟨kind, rfl⟩ := byte_of w0
    obtain ⟨c, rfl⟩ := byte_of w1
    simp only [List.cons.injEq, and_true] at e0 e1 e2
    subst e0 e1 e2
    obtain ⟨ax, m, cx, xs, rfl, hxs, hm, hcx⟩ : ∃ ax m cx xs, v3 = .slice ax m cx ∧ Slc W ax xs ∧ xs.length = m ∧ m ≤ cx := by
      rcases open_ints Try.underlying23 Try.underlying5 hc5 g3 with ⟨hcs, _⟩ | ⟨x, l, c, zs, hcs, _, hl, hm, hz, _, hcell, hwz⟩
      · simp only [List.cons.injEq, and_true] at hcs
        exact ⟨none, 0, 0, [], hcs, .inl rfl, rfl, Nat.le_refl _⟩
      · simp only [List.cons.injEq, and_true] at hcs
        obtain ⟨xs, hx1, hx2, hx3, _⟩ := slc_of_row (w := W) (a := some x) (len := l) (cap := c) (zs := zs) (.inr ⟨x, rfl, hl, hm, by simpa using hz, hcell, hwz⟩)
        exact ⟨some x, l, c, xs, hcs, hx2, hx1, hx3⟩
    exact ⟨kind, c, z2, ax, m, cx, xs, h3 0 (by omega), h3 1 (by omega), h3 2 (by omega), h3 3 (by omega), hxs, hm, hcx⟩

theorem open_acts {H : Type} {enc : TypeId × Value → H} {W : World} {base fuel : Nat} {held : Bool} {a : Option Addr} {len cap : Nat} {x : DataW H × List MemPlace}
    (hf : DataW.trod enc Try.prog W base (fun _ => true) held fuel 55 [.slice a len cap] = some x) : ActsIn W a len := by
  have hc : Try.prog.cellsOf 57 = 4 := by kernel_rfl
  rcases Deep.open_slice underlying55 hf with ⟨hcs, _⟩ | ⟨p, l, c, m, n, D, Pl, hcs, _, hl, _, hmm, _, hel⟩
  · simp only [List.cons.injEq, Value.slice.injEq, and_true] at hcs
    exact .inl hcs.2.1
  · simp only [List.cons.injEq, Value.slice.injEq, and_true] at hcs
    obtain ⟨rfl, rfl, rfl⟩ := hcs
    rcases Nat.eq_zero_or_pos len with h0 | hp
    · exact .inl h0
    have hlm : len ≤ m := by rw [hmm]; simpa using hl
    have key : ∀ i, i < len → ∃ (kind c : UInt8) (nn : Int) (ax : Option Addr) (m cx : Nat) (xs : List UInt8), W.cell? (p.add (i * 4)) = some (.int .u8 kind.toNat) ∧ W.cell? (p.add (i * 4 + 1)) = some (.int .u8 c.toNat) ∧ W.cell? (p.add (i * 4 + 2)) = some (.int .i64 nn) ∧ W.cell? (p.add (i * 4 + 3)) = some (.slice ax m cx) ∧ Slc W ax xs ∧ xs.length = m ∧ m ≤ cx := by
      intro i hi
      obtain ⟨cs', h1, h2⟩ := hel i (by omega)
      obtain ⟨kind, c, nn, ax, m, cx, xs, b0, b1, b2, b3, r⟩ := open_act h1 h2
      rw [hc, Deep.add_add] at b0 b1 b2 b3
      exact ⟨kind, c, nn, ax, m, cx, xs, b0, b1, b2, b3, r⟩
    obtain ⟨blk, off, rfl⟩ : ∃ b o, p = ⟨b, o, none⟩ := by
      obtain ⟨b, o, s⟩ := p
      obtain ⟨_, _, _, _, _, _, _, b0, _⟩ := key 0 hp
      obtain rfl : s = none := by simpa [Addr.add] using World.cell?_spot b0
      exact ⟨b, o, rfl⟩
    simp only [Go.WideShapes.add_plain] at key
    refine .inr ⟨blk, off, rfl, ?_, fun i hi => ?_⟩
    · obtain ⟨_, _, _, _, _, _, _, b0, _⟩ := key 0 hp
      rcases Nat.lt_or_ge blk W.heap.size with h' | h'
      · exact h'
      · simp [World.cell?, Array.getElem?_eq_none h'] at b0
    · obtain ⟨kind, c, nn, ax, m, cx, xs, b0, b1, b2, b3, r1, r2, r3⟩ := key i hi
      exact ⟨kind, c, nn, ax, m, cx, xs, b0, by rw [Nat.add_assoc]; exact b1, by rw [Nat.add_assoc]; exact b2, by rw [Nat.add_assoc]; exact b3, r1, r2, r3⟩
end Go.Proofs.Ytadoobkieehajaa
