/- Contract of the reference's Find. -/
import Derived.Test.YtadoobkieehajaaYa
namespace Go.Proofs.Ytadoobkieehajaa
open Go.RowKit Go.Shelf

set_option maxRecDepth 100000 in
set_option maxHeartbeats 1000000 in
theorem find_ref_out (s o : Int) (i : Int) (b : Nat) (ad : Option Addr) (n cap g : Nat) (all : List UInt8) (ax : Option Addr) (m cx : Nat) (w : World) (h : RefS w b ad n cap g all) (hk : i < 0 ∨ (0 ≤ i ∧ ((n - g : Nat) : Int) < i)) :
    Calls Try.prog 43 #[.agg #[.int .i64 s, .int .i64 o, .slice ad n cap, .int .i64 g], .slice ax m cx, .int .i64 i] w fun e w' => e = .returned (.int .i64 (-1)) ∧ w.grownBy w' none := by
  have gA := World.grownBy_alloc w (.cells #[.int .i64 s, .int .i64 o, .slice ad n cap, .int .i64 g] 72) none
  have hR := h.grown gA (.inl rfl)
  rcases hk with hk | ⟨hk0, hk⟩
  · go_enter Try.func43, Try.ntmps43
    go_wp2_with fail
    refine (held_any s o b ad n cap g all _ hR).mono ?_
    rintro e w2 ⟨rfl, g2⟩
    go_wp2_with fail
    go_ret
    exact ⟨rfl, grown_trans gA g2⟩
  · have hkn : ¬ i < 0 := by omega
    go_enter Try.func43, Try.ntmps43
    go_wp2_with fail
    refine (held_any s o b ad n cap g all _ hR).mono ?_
    rintro e w2 ⟨rfl, g2⟩
    go_wp2_with fail
    go_ret
    exact ⟨rfl, grown_trans gA g2⟩

set_option maxRecDepth 100000 in
set_option maxHeartbeats 1000000 in
theorem find_ref (s o : Int) (i : Nat) (b : Nat) (ad : Option Addr) (n cap g : Nat) (all xs : List UInt8) (ax : Option Addr) (m cx : Nat) (w : World) (h : RefS w b ad n cap g all) (hx : Slc w ax xs) (hm : xs.length = m) (hmc : m ≤ cx) (hmb : m ≤ 100000) (hn : n ≤ 100000) (hi : i ≤ n - g) :
    Calls Try.prog 43 #[.agg #[.int .i64 s, .int .i64 o, .slice ad n cap, .int .i64 g], .slice ax m cx, .int .i64 i] w fun e w' => e = .returned (.int .i64 (findR (all.drop g) xs i)) ∧ w.grownBy w' none := by
  have gA := World.grownBy_alloc w (.cells #[.int .i64 s, .int .i64 o, .slice ad n cap, .int .i64 g] 72) none
  have hR := h.grown gA (.inl rfl)
  have hH := h.held
  have hHl := h.held_len
  have hf := h.fits
  have hnil := h.nil
  have hkn : ¬ (i : Int) < 0 := by omega
  have hkl : ¬ ((n - g : Nat) : Int) < i := by omega
  have hcap1 : n - g ≤ cap - g := by omega
  have hmost : cap - g ≤ maxLen := by have := h.most; omega
  have hadn : adOff ad cap g = none → cap - g = 0 := fun e => by
    have : ad = none := by cases ad <;> simp [adOff] at e ⊢
    have := hnil this
    omega
  go_enter Try.func43, Try.ntmps43
  go_wp2_with fail
  refine (held_any s o b ad n cap g all _ hR).mono ?_
  rintro e w2 ⟨rfl, g2⟩
  have gB := grown_trans gA g2
  have hH2 := hH.below (below_of_grown gB) (Nat.le_refl _)
  have hx2 := hx.below (below_of_grown gB) (Nat.le_refl _)
  clear gA hR g2 hH hx hf hnil h
  generalize adOff ad cap g = a1 at hH2 hadn ⊢
  generalize cap - g = c1 at hcap1 hmost hadn ⊢
  have hb1 : ((n - g : Nat) : Int) ≤ 100000 := by omega
  generalize n - g = n1 at hHl hi hkl hcap1 hb1 ⊢
  have hmbi : (m : Int) ≤ 100000 := by omega
  go_wp2_with fail
  go_loopw [8] (fun v wr => ∃ j : Nat, i ≤ j ∧ j ≤ n1 + 1 ∧ (∀ k, i ≤ k → k < j → hit (all.drop g) xs k = false) ∧ v = .int .i64 j ∧ w.grownBy wr none ∧ w2.grownBy wr none)
    (fun v _ => n1 + 1 - (intOf v).toNat)
  case atStart => exact ⟨i, Nat.le_refl _, by omega, fun k h1 h2 => by omega, rfl, gB, grown_refl _ _⟩
  case round =>
    obtain ⟨j, hij, hj1, hnay, rfl, gr, gr2⟩ := hrel
    have HN := Lib.hid hnay
    clear hnay
    have hjb : (j : Int) ≤ 100001 := by omega
    by_cases hle : j + m ≤ n1
    · have hle' : (j : Int) ≤ n1 - m := by omega
      have hjm : (j : Int) + m ≤ n1 := by omega
      have hHr := hH2.below (below_of_grown gr2) (Nat.le_refl _)
      have hxr := hx2.below (below_of_grown gr2) (Nat.le_refl _)
      have k2 := fun q => slc_convert (hxr.below (below_drewN (Below.refl _ _) q) (Nat.le_refl _)) m cx hm
      have hhit : hit (all.drop g) xs j = (List.take m (List.drop (g + j) all) == xs) := by
        rw [hit, hm, hHl, List.drop_drop]
        simp [hle]
      by_cases he : c1 = j
      · obtain rfl : n1 = j := by omega
        obtain rfl : m = 0 := by omega
        obtain rfl : xs = [] := List.eq_nil_of_length_eq_zero hm
        subst he
        have hyes : hit (all.drop g) [] c1 = true := by rw [hhit]; simp
        have HY := Lib.hid hyes
        have k1 := fun q => slc_convert (w := wr.drewN q) (ad := a1) (xs := []) (.inl rfl) 0 0 rfl
        clear hhit hyes
        cases a1 with
        | none =>
          obtain rfl : c1 = 0 := hadn rfl
          go_wp2_with fail
          go_quiet (fail)
          go_wp2_with fail
          go_ret
          exact ⟨by rw [findR_some hij HN.out HY.out]; rfl, grown_draws gr _⟩
        | some x =>
          go_wp2_with fail
          have kw : IntKind.i64.wrap (c1 : Int) = c1 := IntWalk.i64_in _ (by omega)
          go_quiet (fail)
          clear kw
          go_wp2_with fail
          go_ret
          exact ⟨by rw [findR_some hij HN.out HY.out]; rfl, grown_draws gr _⟩
      · have he' : ¬ (c1 : Int) = j := by omega
        have hHa := (hHr.add j).take m
        have k1 := fun q => slc_convert (hHa.below (below_drewN (Below.refl _ _) q) (Nat.le_refl _)) m (c1 - j) (by rw [List.length_take, List.length_drop]; omega)
        have hc1 : (j : Int) ≤ c1 := by omega
        cases a1 with
        | none => have := hadn rfl; omega
        | some x =>
          simp only [Option.map_some] at k1
          have hjmc : (j : Int) + m ≤ c1 := by omega
          have hjj : (j : Int) ≤ j + m := by omega
          have f1 : ((j : Int) + m).toNat - j = m := by omega
          have HH := Lib.hid hhit
          clear hhit
          cases hh : (List.take m (List.drop (g + j) all) == xs) with
          | true =>
            go_wp2_with fail
            have kw : IntKind.i64.wrap ((j : Int) + m) = j + m := IntWalk.i64_in _ (by omega)
            go_quiet (fail)
            clear kw
            go_wp2_with fail
            go_ret
            exact ⟨by rw [findR_some hij HN.out (HH.out.trans hh)]; rfl, grown_draws gr _⟩
          | false =>
            go_wp2_with fail
            have kw : IntKind.i64.wrap ((j : Int) + m) = j + m := IntWalk.i64_in _ (by omega)
            go_quiet (fail)
            clear kw
            go_wp2_with fail
            go_roundw
            case rel => exact ⟨j + 1, by omega, by omega, fun k h1 h2 => (if e : k = j then e ▸ (HH.out.trans hh) else HN.out k h1 (by omega)), by go_num, grown_draws gr _, grown_draws gr2 _⟩
            case measure => simp [intOf]; omega
    · have hle' : ¬ (j : Int) ≤ n1 - m := by omega
      go_wp2_with fail
      go_ret
      refine ⟨?_, gr⟩
      have hnone : findR (all.drop g) xs i = -1 := findR_none HN.out (by omega)
      rw [hnone]
      rfl
end Go.Proofs.Ytadoobkieehajaa
