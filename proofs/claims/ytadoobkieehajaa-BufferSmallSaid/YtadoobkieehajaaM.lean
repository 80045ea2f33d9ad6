/- What the laws' arguments are. -/
import Derived.Test.YtadoobkieehajaaL
import Derived.WideShapes
namespace Go.Proofs.Ytadoobkieehajaa
open Go.RowKit Go.Shelf

theorem byte_of {a : Int} (h : (Lit.int .u8 a).wf = true) : ∃ c : UInt8, a = (c.toNat : Int) := by
  have h1 : 0 ≤ a ∧ a ≤ 255 := by
    simp only [Lit.wf, Bool.and_eq_true, decide_eq_true_eq] at h
    exact h
  refine ⟨UInt8.ofNat a.toNat, ?_⟩
  simp
  omega

theorem word_of {a : Int} (h : (Lit.int .u32 a).wf = true) : ∃ n : Nat, a = (n : Int) ∧ n ≤ 4294967295 := by
  have h1 : 0 ≤ a ∧ a ≤ 4294967295 := by
    simp only [Lit.wf, Bool.and_eq_true, decide_eq_true_eq] at h
    exact h
  exact ⟨a.toNat, by omega, by omega⟩

theorem slc_of_row {w : World} {a : Option Addr} {len cap : Nat} {zs : List Int} (h : (a = none ∧ len = 0 ∧ cap = 0 ∧ zs = []) ∨
    ∃ x, a = some x ∧ len ≤ cap ∧ cap ≤ maxLen ∧ zs.length = cap ∧ (∀ i, i < zs.length → w.cell? (x.add i) = some (.int .u8 (zs.getD i 0))) ∧ ∀ n ∈ zs, (Lit.int .u8 n).wf = true) :
    ∃ xs : List UInt8, xs.length = len ∧ Slc w a xs ∧ len ≤ cap ∧ cap ≤ maxLen := by
  rcases h with ⟨rfl, rfl, rfl, rfl⟩ | ⟨x, rfl, h1, h2, h3, h4, h5⟩
  · exact ⟨[], rfl, .inl rfl, Nat.le_refl _, by simp [maxLen]⟩
  · refine ⟨(zs.take len).map fun z => UInt8.ofNat z.toNat, by simp; omega, ?_, h1, h2⟩
    rcases Nat.eq_zero_or_pos len with rfl | hp
    · exact .inl (by simp)
    · obtain ⟨b, o, rfl⟩ : ∃ b o, x = ⟨b, o, none⟩ := by
        obtain ⟨b, o, s⟩ := x
        obtain rfl : s = none := by simpa [Addr.add] using World.cell?_spot (h4 0 (by omega))
        exact ⟨b, o, rfl⟩
      have hc : ∀ i, i < zs.length → w.cell? ⟨b, o + i, none⟩ = some (.int .u8 (zs.getD i 0)) := fun i hi => by rw [← Go.WideShapes.add_plain]; exact h4 i hi
      refine .inr ⟨b, o, rfl, ?_, fun j hj => ?_⟩
      · have h0 := hc 0 (by omega)
        rcases Nat.lt_or_ge b w.heap.size with h' | h'
        · exact h'
        · simp [World.cell?, Array.getElem?_eq_none h'] at h0
      · have hj' : j < zs.length := by simp at hj; omega
        rw [hc j hj']
        have hm : zs[j] ∈ zs := List.getElem_mem _
        obtain ⟨c, hcc⟩ := byte_of (h5 _ hm)
        simp [List.getD, hj', B, hcc]

/-- The first of them. -/
theorem Slc.take {w : World} {ad : Option Addr} {xs : List UInt8} (h : Slc w ad xs) (n : Nat) : Slc w ad (xs.take n) := by
  rcases h with rfl | ⟨b, off, rfl, hb, hc⟩
  · exact .inl (by simp)
  · exact .inr ⟨b, off, rfl, hb, fun j hj => by rw [hc j (by simp at hj; omega)]; simp⟩

theorem Slc.grown {w w' : World} {row : Option Nat} {g o : Nat} {xs : List UInt8} (h : Slc w (some ⟨g, o, none⟩) xs) (G : w.grownBy w' row) (hr : some g ≠ row) : Slc w' (some ⟨g, o, none⟩) xs := by
  rcases h with rfl | ⟨b, off, e, hb, hc⟩
  · exact .inl rfl
  · cases e
    exact .inr ⟨g, o, rfl, Nat.lt_of_lt_of_le hb G.size, fun j hj => (World.cell?_of_block (a := ⟨g, o + j, none⟩) (G.block g hb hr)).trans (hc j hj)⟩

/-! ### What is done with a buffer, whatever comes of it -/
theorem put_some (a : Nat) {s o l} (c : UInt8) (w : World) (h : IsBuf w a s o l) (ho : o + l.length < 281474976710656) :
    Calls Try.prog 17 #[.pointer (some ⟨a, 0, none⟩), .int .u8 c.toNat] w fun e w' => ∃ k o' l', e = .returned (.int .i64 k) ∧ IsBuf w' a s o' l' ∧ o' + l'.length ≤ o + l.length + 1 ∧ w.grownBy w' (some a) := by
  have hfit := h.fits
  by_cases hl : l.length = s
  · refine (put_full a c w h hl).mono ?_
    rintro e w' ⟨rfl, m, rfl⟩
    exact ⟨_, o, l, rfl, h.drewN m, by omega, grown_drewN _ _ _⟩
  · refine (put_ok a c w h (by omega) ho).mono ?_
    rintro e w' ⟨rfl, hb, g⟩
    exact ⟨_, o, _, rfl, hb, by simp; omega, g⟩

theorem take_some (a : Nat) {s o l} (n : Int) (w : World) (h : IsBuf w a s o l) :
    Calls Try.prog 13 #[.pointer (some ⟨a, 0, none⟩), .int .i64 n] w fun e w' => ∃ v o' l', e = .returned v ∧ IsBuf w' a s o' l' ∧ o' + l'.length ≤ o + l.length ∧ w.grownBy w' (some a) := by
  by_cases hn : n < 0 ∨ (l.length : Int) < n
  · refine (take_bad a n w h hn).mono ?_
    rintro e w' ⟨rfl, g⟩
    exact ⟨_, o, l, rfl, h.grown g (by simp), Nat.le_refl _, grown_any _ g⟩
  · obtain ⟨k, rfl⟩ : ∃ k : Nat, n = k := ⟨n.toNat, by omega⟩
    refine (take_ok a k w h (by omega)).mono ?_
    rintro e w' ⟨g', cap, rfl, _, hb, g⟩
    exact ⟨_, _, _, rfl, hb, by rw [List.length_drop]; omega, g⟩

theorem discard_some (a : Nat) {s o l} (w : World) (h : IsBuf w a s o l) :
    Calls Try.prog 16 #[.pointer (some ⟨a, 0, none⟩)] w fun e w' => ∃ v o' l', e = .returned v ∧ IsBuf w' a s o' l' ∧ o' + l'.length ≤ o + l.length ∧ w.grownBy w' (some a) := by
  have hfit := h.fits
  by_cases hl : l.length = s
  · refine (discard_full a w h hl).mono ?_
    rintro e w' ⟨rfl, hb, g⟩
    exact ⟨_, _, _, rfl, hb, by rw [List.length_drop]; omega, g⟩
  · refine (discard_room a w h (by omega)).mono ?_
    rintro e w' ⟨rfl, g⟩
    exact ⟨_, o, l, rfl, h.grown g (by simp), Nat.le_refl _, grown_any _ g⟩
end Go.Proofs.Ytadoobkieehajaa
