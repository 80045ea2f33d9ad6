/- Slices of numbers, read and own: what the walk of ArithSums is told of them. -/
import Derived.Test.YtajipgcnpemifaaYd
import Derived.Laws.AppendOwnNone
namespace Go.Proofs.Ytajipgcnpemifaa
open Go.RowKit Ieee

def F (x : Nat) : Value := .float .f64 x

/-- A slice of unsigned integers that came in. -/
structure Uls (w : World) (ad : Option Addr) (l : List Nat) : Prop where
  at_ : l = [] ∨ ∃ b o, ad = some ⟨b, o, none⟩ ∧ b < w.heap.size ∧ ∀ i (h : i < l.length), w.cell? ⟨b, o + i, none⟩ = some (.int .u64 (l[i] : Nat))
  fits : ∀ x ∈ l, x < 2 ^ 64

theorem Uls.below {w w' : World} {ad : Option Addr} {l : List Nat} (h : Uls w ad l) (hB : Below w.heap.size w w') : Uls w' ad l := by
  refine ⟨?_, h.fits⟩
  rcases h.at_ with h | ⟨b, o, rfl, hb, hc⟩
  · exact .inl h
  · exact .inr ⟨b, o, rfl, Nat.lt_of_lt_of_le hb hB.size, fun i hi => (hB.cell (p := ⟨b, o + i, none⟩) hb).trans (hc i hi)⟩
theorem Uls.take {w : World} {ad : Option Addr} {l : List Nat} (h : Uls w ad l) (n : Nat) : Uls w ad (l.take n) := by
  refine ⟨?_, fun x hx => h.fits x (List.mem_of_mem_take hx)⟩
  rcases h.at_ with h | ⟨b, o, rfl, hb, hc⟩
  · exact .inl (by rw [h]; simp)
  · exact .inr ⟨b, o, rfl, hb, fun i hi => by rw [hc i (by rw [List.length_take] at hi; omega)]; simp⟩

theorem uls_of_row {w : World} {a : Option Addr} {len cap : Nat} {zs : List Int} (h : (a = none ∧ len = 0 ∧ cap = 0 ∧ zs = []) ∨
    ∃ x, a = some x ∧ len ≤ cap ∧ cap ≤ maxLen ∧ zs.length = cap ∧ (∀ i, i < zs.length → w.cell? (x.add i) = some (.int .u64 (zs.getD i 0))) ∧ ∀ n ∈ zs, (Lit.int .u64 n).wf = true) :
    ∃ xs : List Nat, xs.length = len ∧ Uls w a xs ∧ len ≤ cap ∧ cap ≤ maxLen := by
  rcases h with ⟨rfl, rfl, rfl, rfl⟩ | ⟨x, rfl, h1, h2, h3, h4, h5⟩
  · exact ⟨[], rfl, ⟨.inl rfl, fun _ h => by cases h⟩, Nat.le_refl _, by simp [maxLen]⟩
  · refine ⟨(zs.take len).map fun z => z.toNat, by simp; omega, ⟨?_, ?_⟩, h1, h2⟩
    · rcases Nat.eq_zero_or_pos len with rfl | hp
      · exact .inl (by simp)
      · obtain ⟨b, o, rfl⟩ : ∃ b o, x = ⟨b, o, none⟩ := by
          obtain ⟨b, o, s⟩ := x
          obtain rfl : s = none := by simpa [Addr.add] using World.cell?_spot (h4 0 (by omega))
          exact ⟨b, o, rfl⟩
        have hc : ∀ i, i < zs.length → w.cell? ⟨b, o + i, none⟩ = some (.int .u64 (zs.getD i 0)) := fun i hi => by rw [← Go.WideShapes.add_plain]; exact h4 i hi
        refine .inr ⟨b, o, rfl, ?_, fun j hj => ?_⟩
        · have h0 := hc 0 (by omega)
          by_cases hlt : b < w.heap.size
          · exact hlt
          · have hb : w.heap[b]? = none := Array.getElem?_eq_none (by omega)
            simp [World.cell?, hb] at h0
        · have hj' : j < zs.length := by simp at hj; omega
          rw [hc j hj']
          have hz := u64_fits (h5 _ (List.getElem_mem hj'))
          simp [List.getD, hj']
          omega
    · intro y hy
      obtain ⟨z, hz, rfl⟩ := List.mem_map.1 hy
      have := u64_fits (h5 z (List.mem_of_mem_take hz))
      show z.toNat < 2 ^ 64
      omega

/-- What an own slice holds may be read. -/
theorem fls_of_owns {w : World} {base n cap : Nat} {ad : Option Addr} {l : List Nat} (h : w.ownsRow base 24 1 (.slice ad n cap) n (l.map F)) (hf : ∀ x ∈ l, x < 2 ^ 64) : Fls w ad l ∧ l.length = n ∧ n ≤ cap ∧ (l = [] ∨ ∃ g, ad = some ⟨g, 0, none⟩ ∧ g < w.heap.size) := by
  have hl : l.length = n := by have := h.1; simpa using this
  rcases h.2 with ⟨e, h0⟩ | ⟨g, cap', cur, hv, hb, hh, h1, h2, h3, h4⟩
  · have hn : l = [] := List.eq_nil_of_length_eq_zero (hl.trans h0)
    exact ⟨⟨.inl hn, hf⟩, hl, by omega, .inl hn⟩
  · simp only [Value.slice.injEq] at hv
    obtain ⟨rfl, _, rfl⟩ := hv
    have hg := (Array.getElem?_eq_some_iff.1 hh).1
    refine ⟨⟨.inr ⟨g, 0, rfl, hg, fun j hj => ?_⟩, hf⟩, hl, h1, .inr ⟨g, rfl, hg⟩⟩
    have e : (cur.toList.take (n * 1))[j]? = (l.map F)[j]? := by rw [h4]
    rw [List.getElem?_take_of_lt (by omega)] at e
    simp [World.cell?, hh]
    have e2 : (l.map F)[j]? = some (F l[j]) := by simp [hj]
    rw [e2] at e
    simpa [F] using e

theorem owns_shape {w : World} {base n : Nat} {v : Value} {xs : List Value} (h : w.ownsRow base 24 1 v n xs) : ∃ ad cap, v = .slice ad n cap := by
  rcases h.2 with ⟨e, h0⟩ | ⟨g, cap', cur, hv, hb, hh, h1, h2, h3, h4⟩
  · exact ⟨none, 0, by rw [e, h0]⟩
  · exact ⟨_, _, hv⟩
theorem owns_block {w : World} {base n : Nat} {v : Value} {xs : List Value} (h : w.ownsRow base 24 1 v n xs) : ∀ k, v.ownBlock = some k → base ≤ k := by
  intro k hk
  rcases h.2 with ⟨e, h0⟩ | ⟨g, cap', cur, hv, hb, hh, h1, h2, h3, h4⟩
  · rw [e] at hk; cases hk
  · rw [hv] at hk
    injection hk with hk
    rw [← hk]; exact hb

/-- The cells of a read slice, for an append. -/
theorem Fls.cells {w : World} {b o : Nat} {l : List Nat} (h : ∀ i (h : i < l.length), w.cell? ⟨b, o + i, none⟩ = some (.float .f64 l[i])) :
    ∀ j u, (l.map F)[j]? = some u → w.cell? ((⟨b, o, none⟩ : Addr).add j) = some u := by
  intro j u hj
  have hjn : j < l.length := by
    have := (List.getElem?_eq_some_iff.1 hj).1
    simpa using this
  rw [Go.WideShapes.add_plain, h j hjn]
  simp [hjn, F] at hj
  rw [hj]
theorem Fls.news {w : World} {a : Addr} {l : List Nat} (h : Fls w (some a) l) : ∀ j u, (l.map F)[j]? = some u → w.cell? (a.add j) = some u := by
  rcases h.at_ with e | ⟨b, o, e, hb, hc⟩
  · intro j u hj; rw [e] at hj; simp at hj
  · injection e with e
    subst e
    exact Fls.cells hc
theorem Fls.take {w : World} {ad : Option Addr} {l : List Nat} (h : Fls w ad l) (n : Nat) : Fls w ad (l.take n) := by
  refine ⟨?_, fun x hx => h.fits x (List.mem_of_mem_take hx)⟩
  rcases h.at_ with h | ⟨b, o, rfl, hb, hc⟩
  · exact .inl (by rw [h]; simp)
  · exact .inr ⟨b, o, rfl, hb, fun i hi => by rw [hc i (by rw [List.length_take] at hi; omega)]; simp⟩
theorem owns_none {w : World} {base n cap : Nat} {xs : List Value} (h : w.ownsRow base 24 1 (.slice none n cap) n xs) : n = 0 ∧ cap = 0 := by
  rcases h.2 with ⟨e, h0⟩ | ⟨g, cap', cur, hv, hb, hh, h1, h2, h3, h4⟩
  · simp only [Value.slice.injEq] at e; exact ⟨h0, e.2.2⟩
  · simp only [Value.slice.injEq] at hv; exact absurd hv.1 (by simp)
theorem f_one (l : List Nat) : ∀ u ∈ l.map F, u.oneCell' = true := by
  intro u hu; obtain ⟨x, _, rfl⟩ := List.mem_map.1 hu; rfl

theorem sum_is (ad : Option Addr) (cap n : Nat) (l : List Nat) (w : World) (hl : Fls w ad l) (hn : l.length = n) (hm : n ≤ 100) :
    Calls Try.prog 18 #[.slice ad n cap] w fun e w' => e = .returned (.float .f64 (sumb l)) ∧ Below w.heap.size w w' := by
  subst hn
  exact sum_any ad cap l w hl (by unfold maxLen; omega)
theorem least_is (ad : Option Addr) (cap n : Nat) (l : List Nat) (w : World) (hl : Fls w ad l) (hn : l.length = n) (hm : n ≤ 100) (h0 : 0 < n) :
    Calls Try.prog 19 #[.slice ad n cap] w fun e w' => e = .returned (.tuple #[.float .f64 (leastl l), .int .i64 0]) ∧ Below w.heap.size w w' :=
  least_some ad cap n l w hl (by unfold maxLen; omega) hn.symm h0

theorem least_zero (ad : Option Addr) (cap n : Nat) (w : World) (hn : n = 0) :
    Calls Try.prog 19 #[.slice ad n cap] w fun e w' => e = .returned (.tuple #[.float .f64 0, .int .i64 6]) ∧ w = w' := by
  subst hn
  exact least_nil ad cap w

theorem min_twelve (n : Nat) : ∃ K : Nat, K ≤ 12 ∧ K ≤ n ∧ (if (12 : Int) < (n : Int) then (12 : Int) else (n : Int)) = (K : Int) := by
  by_cases h : 12 < n
  · exact ⟨12, by omega, by omega, by rw [if_pos (by omega)]; rfl⟩
  · exact ⟨n, by omega, by omega, by rw [if_neg (by omega)]⟩
end Go.Proofs.Ytajipgcnpemifaa
