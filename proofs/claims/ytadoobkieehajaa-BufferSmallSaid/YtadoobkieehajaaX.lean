/- Contracts of the reference's functions: Good, Held, From. -/
import Derived.Test.YtadoobkieehajaaW
import Derived.Test.YtadoobkieehajaaO
namespace Go.Proofs.Ytadoobkieehajaa
open Go.RowKit Go.Shelf

theorem good_yes (s o : Nat) (w : World) (h1 : 2 ≤ s) (h2 : s ≤ 256) (h3 : o ≤ 281474976710656) :
    Calls Try.prog 33 #[.int .i64 s, .int .i64 o] w fun e w' => e = .returned (.bool true) ∧ w = w' := by
  have k1 : (2 : Int) ≤ s := by omega
  have k2 : (s : Int) ≤ 256 := by omega
  have k3 : (0 : Int) ≤ o := by omega
  have k4 : (o : Int) ≤ 281474976710656 := by omega
  go_enter Try.func33, Try.ntmps33
  go_wp2_with fail
  go_ret
  exact ⟨rfl, rfl⟩

theorem good_no (s o : Int) (w : World) (h : s < 2 ∨ 256 < s ∨ o < 0 ∨ 281474976710656 < o) :
    Calls Try.prog 33 #[.int .i64 s, .int .i64 o] w fun e w' => e = .returned (.bool false) ∧ w = w' := by
  by_cases h1 : s < 2
  · have k1 : ¬ (2 : Int) ≤ s := by omega
    clear h
    go_enter Try.func33, Try.ntmps33
    go_wp2_with fail
    go_ret
    exact ⟨rfl, rfl⟩
  · have k1 : (2 : Int) ≤ s := by omega
    by_cases h2 : 256 < s
    · have k2 : ¬ s ≤ (256 : Int) := by omega
      clear h
      go_enter Try.func33, Try.ntmps33
      go_wp2_with fail
      go_ret
      exact ⟨rfl, rfl⟩
    · have k2 : s ≤ (256 : Int) := by omega
      by_cases h3 : o < 0
      · have k3 : ¬ (0 : Int) ≤ o := by omega
        clear h
        go_enter Try.func33, Try.ntmps33
        go_wp2_with fail
        go_ret
        exact ⟨rfl, rfl⟩
      · have k3 : (0 : Int) ≤ o := by omega
        have k4 : ¬ o ≤ (281474976710656 : Int) := by omega
        clear h
        go_enter Try.func33, Try.ntmps33
        go_wp2_with fail
        go_ret
        exact ⟨rfl, rfl⟩

/-- What the reference's buffer holds: all bytes that were put, g of them are gone; the bytes don't lie in block b. -/
structure RefS (w : World) (b : Nat) (ad : Option Addr) (n cap g : Nat) (all : List UInt8) : Prop where
  len : all.length = n
  slc : Slc w ad all
  fits : n ≤ cap
  most : cap ≤ maxLen
  le : g ≤ n
  nil : ad = none → cap = 0
  apart : ∀ x, ad = some x → x.block ≠ b
  old : ∀ x, ad = some x → x.block < w.heap.size

theorem RefS.grown {w w' : World} {b : Nat} {ad : Option Addr} {n cap g : Nat} {all : List UInt8} {row : Option Nat} (h : RefS w b ad n cap g all) (k : w.grownBy w' row) (hr : row = .none ∨ row = some b) : RefS w' b ad n cap g all := by
  refine ⟨h.len, ?_, h.fits, h.most, h.le, h.nil, h.apart, fun x hx => Nat.lt_of_lt_of_le (h.old x hx) k.size⟩
  rcases h.slc with e | ⟨c, off, rfl, hc, hv⟩
  · exact .inl e
  · have ha := h.apart _ rfl
    refine .inr ⟨c, off, rfl, Nat.lt_of_lt_of_le hc k.size, fun j hj => ?_⟩
    exact (World.cell?_of_block (a := ⟨c, off + j, .none⟩) (k.block c hc (by rcases hr with rfl | rfl <;> simp; simpa using ha))).trans (hv j hj)

/-- Where what is held begins. -/
def adOff (ad : Option Addr) (cap g : Nat) : Option Addr := ad.map fun x => if cap = g then x else x.add g

theorem RefS.held {w : World} {b : Nat} {ad : Option Addr} {n cap g : Nat} {all : List UInt8} (h : RefS w b ad n cap g all) : Slc w (adOff ad cap g) (all.drop g) := by
  have h1 := h.fits
  have h2 := h.le
  by_cases he : cap = g
  · exact .inl (List.drop_eq_nil_of_le (by rw [h.len]; omega))
  · simp only [adOff, he, if_false]
    exact h.slc.add g
theorem RefS.held_len {w : World} {b : Nat} {ad : Option Addr} {n cap g : Nat} {all : List UInt8} (h : RefS w b ad n cap g all) : (all.drop g).length = n - g := by rw [List.length_drop, h.len]

set_option maxRecDepth 100000 in
set_option maxHeartbeats 1000000 in
theorem held_any (s o : Int) (b : Nat) (ad : Option Addr) (n cap g : Nat) (all : List UInt8) (w : World) (h : RefS w b ad n cap g all) :
    Calls Try.prog 36 #[.agg #[.int .i64 s, .int .i64 o, .slice ad n cap, .int .i64 g]] w fun e w' => e = .returned (.slice (adOff ad cap g) (n - g) (cap - g)) ∧ w.grownBy w' none := by
  have hc := h.fits
  have hm := h.most
  have hg := h.le
  have hg' : (g : Int) ≤ n := by omega
  have hn := h.nil
  have gA := World.grownBy_alloc w (.cells #[.int .i64 s, .int .i64 o, .slice ad n cap, .int .i64 g] 72) none
  cases ad with
  | none =>
    obtain rfl : cap = 0 := hn rfl
    obtain rfl : n = 0 := by omega
    obtain rfl : g = 0 := by omega
    go_enter Try.func36, Try.ntmps36
    go_wp2_with fail
    go_ret
    exact ⟨rfl, gA⟩
  | some x =>
    by_cases he : cap = g
    · obtain rfl : n = g := by omega
      subst he
      go_enter Try.func36, Try.ntmps36
      go_wp2_with fail
      go_ret
      exact ⟨by simp [adOff], gA⟩
    · have he' : ¬ (cap : Int) = g := by omega
      go_enter Try.func36, Try.ntmps36
      go_wp2_with fail
      go_ret
      exact ⟨by simp [adOff, he], gA⟩

theorem from_any (s o : Int) (ad : Option Addr) (n cap g : Nat) (w : World) (ho : 0 ≤ o ∧ o ≤ 281474976710656) (hg : g ≤ 100000) :
    Calls Try.prog 39 #[.agg #[.int .i64 s, .int .i64 o, .slice ad n cap, .int .i64 g]] w fun e w' => e = .returned (.int .i64 (o + g)) ∧ w.grownBy w' none := by
  have hg' : (g : Int) ≤ 100000 := by omega
  obtain ⟨ho1, ho2⟩ := ho
  go_enter Try.func39, Try.ntmps39
  go_wp2_with fail
  go_ret
  exact ⟨rfl, World.grownBy_alloc _ _ _⟩
end Go.Proofs.Ytadoobkieehajaa
