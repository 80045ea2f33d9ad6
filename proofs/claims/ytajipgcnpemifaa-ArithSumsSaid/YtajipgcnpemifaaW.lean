/- Min, Max and Neg by their places; sums keep the order. -/
import Derived.Test.YtajipgcnpemifaaN
namespace Go.Proofs.Ytajipgcnpemifaa
open Ieee

theorem leastb_num (x y : Nat) (nx : nanq x = false) (ny : nanq y = false) : nanq (leastb x y) = false ∧ plc (leastb x y) = min (plc x) (plc y) := by
  unfold leastb
  rw [nx, ny, if_neg (by decide)]
  by_cases h : plc x < plc y
  · rw [if_pos h]; exact ⟨nx, by omega⟩
  · rw [if_neg h]; exact ⟨ny, by omega⟩

theorem dob6_num (x y : Nat) (nx : nanq x = false) (ny : nanq y = false) : nanq (dob 6 x y) = false ∧ plc (dob 6 x y) = min (plc x) (plc y) := by
  obtain ⟨a, b⟩ := leastb_num x y nx ny
  show nanq (canonb (leastb x y)) = false ∧ plc (canonb (leastb x y)) = _
  rw [canonb_num a]; exact ⟨a, b⟩
theorem dob6_nan (x y : Nat) (h : nanq x = true ∨ nanq y = true) : dob 6 x y = nanb := by
  show canonb (leastb x y) = nanb
  rcases h with h | h
  · rw [leastb_nan_left x y h]; decide
  · rw [leastb_nan_right x y h]; decide

theorem dob7_num (x y : Nat) (hx : x < 2 ^ 64) (hy : y < 2 ^ 64) (nx : nanq x = false) (ny : nanq y = false) : nanq (dob 7 x y) = false ∧ plc (dob 7 x y) = max (plc x) (plc y) := by
  have tx := turned_lt x hx
  have ty := turned_lt y hy
  obtain ⟨a, b⟩ := leastb_num (turned x) (turned y) (by rw [nanq_turned x hx, nx]) (by rw [nanq_turned y hy, ny])
  have hl := leastb_lt (turned x) (turned y) tx ty
  have hn : nanq (turned (leastb (turned x) (turned y))) = false := by rw [nanq_turned _ hl, a]
  show nanq (canonb (turned (leastb (turned x) (turned y)))) = false ∧ plc (canonb (turned (leastb (turned x) (turned y)))) = _
  rw [canonb_num hn, plc_turned _ hl, b, plc_turned x hx, plc_turned y hy]
  exact ⟨hn, by omega⟩
theorem dob7_nan (x y : Nat) (hx : x < 2 ^ 64) (hy : y < 2 ^ 64) (h : nanq x = true ∨ nanq y = true) : dob 7 x y = nanb := by
  show canonb (turned (leastb (turned x) (turned y))) = nanb
  rcases h with h | h
  · rw [leastb_nan_left _ _ (by rw [nanq_turned x hx, h])]; decide
  · rw [leastb_nan_right _ _ (by rw [nanq_turned y hy, h])]; decide

theorem dob1_num (x u : Nat) (hx : x < 2 ^ 64) (nx : nanq x = false) : nanq (dob 1 x u) = false ∧ plc (dob 1 x u) = -1 - plc x := by
  have hn : nanq (turned x) = false := by rw [nanq_turned x hx, nx]
  show nanq (canonb (turned x)) = false ∧ plc (canonb (turned x)) = _
  rw [canonb_num hn]; exact ⟨hn, plc_turned x hx⟩
theorem dob1_nan (x u : Nat) (hx : x < 2 ^ 64) (nx : nanq x = true) : dob 1 x u = nanb := by
  show canonb (turned x) = nanb
  rw [canonb_nan (by rw [nanq_turned x hx, nx])]

theorem nan_cases (x : Nat) : nanq x = true ∨ nanq x = false := by cases nanq x <;> simp

theorem min_assoc (x y z : Nat) (hx : x < 2 ^ 64) (hy : y < 2 ^ 64) (hz : z < 2 ^ 64) : dob 6 (dob 6 x y) z = dob 6 x (dob 6 y z) := by
  rcases nan_cases x with nx | nx
  · rw [dob6_nan x (dob 6 y z) (.inl nx), dob6_nan x y (.inl nx)]; exact dob6_nan _ _ (.inl (by decide))
  rcases nan_cases y with ny | ny
  · rw [dob6_nan x y (.inr ny), dob6_nan y z (.inl ny), dob6_nan _ z (.inl (by decide)), dob6_nan x _ (.inr (by decide))]
  rcases nan_cases z with nz | nz
  · rw [dob6_nan _ z (.inr nz), dob6_nan y z (.inr nz), dob6_nan x _ (.inr (by decide))]
  obtain ⟨a1, a2⟩ := dob6_num x y nx ny
  obtain ⟨b1, b2⟩ := dob6_num y z ny nz
  obtain ⟨c1, c2⟩ := dob6_num _ z a1 nz
  obtain ⟨d1, d2⟩ := dob6_num x _ nx b1
  refine plc_inj _ _ ?_ ?_ (by rw [c2, d2, a2, b2]; omega)
  · exact canonb_lt _ (leastb_lt _ _ (canonb_lt _ (leastb_lt _ _ hx hy)) hz)
  · exact canonb_lt _ (leastb_lt _ _ hx (canonb_lt _ (leastb_lt _ _ hy hz)))

theorem max_assoc (x y z : Nat) (hx : x < 2 ^ 64) (hy : y < 2 ^ 64) (hz : z < 2 ^ 64) : dob 7 (dob 7 x y) z = dob 7 x (dob 7 y z) := by
  have lxy := dob_lt 7 x y hx hy
  have lyz := dob_lt 7 y z hy hz
  rcases nan_cases x with nx | nx
  · rw [dob7_nan x (dob 7 y z) hx lyz (.inl nx), dob7_nan x y hx hy (.inl nx)]; exact dob7_nan _ _ nanb_lt hz (.inl (by decide))
  rcases nan_cases y with ny | ny
  · rw [dob7_nan x y hx hy (.inr ny), dob7_nan y z hy hz (.inl ny), dob7_nan _ z nanb_lt hz (.inl (by decide)), dob7_nan x _ hx nanb_lt (.inr (by decide))]
  rcases nan_cases z with nz | nz
  · rw [dob7_nan _ z lxy hz (.inr nz), dob7_nan y z hy hz (.inr nz), dob7_nan x _ hx nanb_lt (.inr (by decide))]
  obtain ⟨a1, a2⟩ := dob7_num x y hx hy nx ny
  obtain ⟨b1, b2⟩ := dob7_num y z hy hz ny nz
  obtain ⟨c1, c2⟩ := dob7_num _ z lxy hz a1 nz
  obtain ⟨d1, d2⟩ := dob7_num x _ hx lyz nx b1
  exact plc_inj _ _ (dob_lt 7 _ _ lxy hz) (dob_lt 7 _ _ hx lyz) (by rw [c2, d2, a2, b2]; omega)

theorem neg_min (x y : Nat) (hx : x < 2 ^ 64) (hy : y < 2 ^ 64) : dob 1 (dob 6 x y) 0 = dob 7 (dob 1 x 0) (dob 1 y 0) := by
  have lxy := dob_lt 6 x y hx hy
  have lx := dob_lt 1 x 0 hx (by decide)
  have ly := dob_lt 1 y 0 hy (by decide)
  rcases nan_cases x with nx | nx
  · rw [dob6_nan x y (.inl nx), dob1_nan x 0 hx nx, dob7_nan _ _ nanb_lt ly (.inl (by decide))]; decide
  rcases nan_cases y with ny | ny
  · rw [dob6_nan x y (.inr ny), dob1_nan y 0 hy ny, dob7_nan _ _ lx nanb_lt (.inr (by decide))]; decide
  obtain ⟨a1, a2⟩ := dob6_num x y nx ny
  obtain ⟨b1, b2⟩ := dob1_num x 0 hx nx
  obtain ⟨c1, c2⟩ := dob1_num y 0 hy ny
  obtain ⟨d1, d2⟩ := dob1_num _ 0 lxy a1
  obtain ⟨e1, e2⟩ := dob7_num _ _ lx ly b1 c1
  exact plc_inj _ _ (dob_lt 1 _ _ lxy (by decide)) (dob_lt 7 _ _ lx ly) (by rw [d2, e2, a2, b2, c2]; omega)

/-- Min and Max of two numbers are these two. -/
theorem min_max (x y : Nat) (hx : x < 2 ^ 64) (hy : y < 2 ^ 64) (nx : nanq x = false) (ny : nanq y = false) :
    plc (dob 6 x y) ≤ plc (dob 7 x y) ∧ ((dob 6 x y = x ∧ dob 7 x y = y) ∨ (dob 6 x y = y ∧ dob 7 x y = x)) := by
  obtain ⟨a1, a2⟩ := dob6_num x y nx ny
  obtain ⟨b1, b2⟩ := dob7_num x y hx hy nx ny
  have l6 := dob_lt 6 x y hx hy
  have l7 := dob_lt 7 x y hx hy
  refine ⟨by rw [a2, b2]; omega, ?_⟩
  by_cases h : plc x ≤ plc y
  · exact .inl ⟨plc_inj _ _ l6 hx (by rw [a2]; omega), plc_inj _ _ l7 hy (by rw [b2]; omega)⟩
  · exact .inr ⟨plc_inj _ _ l6 hy (by rw [a2]; omega), plc_inj _ _ l7 hx (by rw [b2]; omega)⟩

theorem srung_of_plc (x y : Nat) (hx : x < 2 ^ 64) (hy : y < 2 ^ 64) (h : plc x ≤ plc y) : srung x ≤ srung y := by
  rw [srung_eq, srung_eq]
  revert h
  unfold plc sval
  cases negq x <;> cases negq y <;> simp <;> omega

theorem srung_turned (x : Nat) (hx : x < 2 ^ 64) : srung (turned x) = -srung x := by
  rw [srung_eq, srung_eq, negq_turned x hx, turned_mod x hx]
  unfold sval
  cases negq x <;> simp

theorem finq_turned (x : Nat) (hx : x < 2 ^ 64) : finq (turned x) = finq x := by
  unfold finq; rw [turned_mod x hx]

theorem order_le (p q : Nat) (hp : p < 2 ^ 64) (hq : q < 2 ^ 64) (np : nanq p = false) (nq : nanq q = false) (h : srung p ≤ srung q) :
    (double.order p q == some .lt || double.order p q == some .eq) = true ∧ (double.order q p == some .gt || double.order q p == some .eq) = true := by
  rw [order_any p q hp hq np nq, order_any q p hq hp nq np]
  by_cases e : srung p = srung q
  · rw [e, cmp_refl]; exact ⟨rfl, rfl⟩
  · rw [cmp_lt (by omega), cmp_gt (by omega)]; exact ⟨rfl, rfl⟩

theorem sum_order (u v z : Nat) (hu : u < 2 ^ 64) (hv : v < 2 ^ 64) (hz : z < 2 ^ 64) (fu : finq u = true) (fv : finq v = true) (fz : finq z = true) (h : plc u ≤ plc v) :
    (double.order (dob 2 u z) (dob 2 v z) == some .lt || double.order (dob 2 u z) (dob 2 v z) == some .eq) = true := by
  obtain ⟨p, q, e1, e2, hp, hq, np, nq, hs⟩ := add_mono u v z hu hv hz fu fv fz (srung_of_plc u v hu hv h)
  have d1 : dob 2 u z = p := fop_some (by rw [bits_add, e1])
  have d2 : dob 2 v z = q := fop_some (by rw [bits_add, e2])
  rw [d1, d2]
  exact (order_le p q hp hq np nq hs).1

theorem sub_order (u v z : Nat) (hu : u < 2 ^ 64) (hv : v < 2 ^ 64) (hz : z < 2 ^ 64) (fu : finq u = true) (fv : finq v = true) (fz : finq z = true) (h : plc u ≤ plc v) :
    (double.order (dob 3 z u) (dob 3 z v) == some .gt || double.order (dob 3 z u) (dob 3 z v) == some .eq) = true := by
  have hs := srung_of_plc u v hu hv h
  obtain ⟨p, q, e1, e2, hp, hq, np, nq, hs⟩ := add_mono (turned v) (turned u) z (turned_lt v hv) (turned_lt u hu) hz (by rw [finq_turned v hv, fv]) (by rw [finq_turned u hu, fu]) fz (by rw [srung_turned v hv, srung_turned u hu]; omega)
  have d1 : dob 3 z u = q := fop_some (by rw [bits_sub, sub_eq z u hu, add_comm, e2])
  have d2 : dob 3 z v = p := fop_some (by rw [bits_sub, sub_eq z v hv, add_comm, e1])
  rw [d1, d2]
  exact (order_le p q hp hq np nq hs).2
end Go.Proofs.Ytajipgcnpemifaa
