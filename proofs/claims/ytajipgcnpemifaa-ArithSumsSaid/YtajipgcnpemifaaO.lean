/- The contracts of Holds, Witness and Sides. -/
import Derived.Test.YtajipgcnpemifaaM
import Derived.Test.YtajipgcnpemifaaSb
namespace Go.Proofs.Ytajipgcnpemifaa
open Go.RowKit Ieee

/-- Whether a law holds, by its number less one. -/
def holdsb (j : Nat) : Bool := decide (j < 11) || j == 21 || j == 22
/-- Witnesses of a law, by its number less one. -/
def witb (j : Nat) : Nat × Nat × Nat :=
  match j with
  | 11 => (4607182418800017408, 4607182418800017408, 0)
  | 12 => (9218868437227405312, 0, 0)
  | 13 => (13830554455654793216, 0, 0)
  | 14 => (4607182418800017408, 13830554455654793216, 1)
  | 15 => (7598952565167317594, 7598952565167317594, 1614679632300144556)
  | 16 => (7598952565167317594, 7598952565167317594, 16822324602022093402)
  | 17 => (1, 4607182418800017408, 0)
  | 18 => (0, 0, 0)
  | 19 => (9223372036854775808, 0, 0)
  | 20 => (4607182418800017408, 0, 0)
  | 23 => (1, 1, 0)
  | _ => (0, 0, 0)
/-- The function of a law's sides, by its number less one. -/
def sidesV (b2 b3 b4 b5 b6 b7 j : Nat) : Value :=
  match j with
  | 0 => .func (.func 55) #[] #[.pointer (some ⟨b3, 0, none⟩)]
  | 1 => .func (.func 56) #[] #[.pointer (some ⟨b5, 0, none⟩)]
  | 2 => .func (.func 57) #[] #[]
  | 3 => .func (.func 58) #[] #[]
  | 4 => .func (.func 59) #[] #[.pointer (some ⟨b5, 0, none⟩)]
  | 5 => .func (.func 60) #[] #[.pointer (some ⟨b6, 0, none⟩)]
  | 6 => .func (.func 61) #[] #[.pointer (some ⟨b4, 0, none⟩)]
  | 7 => .func (.func 62) #[] #[.pointer (some ⟨b3, 0, none⟩)]
  | 8 => .func (.func 63) #[] #[.pointer (some ⟨b7, 0, none⟩)]
  | 9 => .func (.func 64) #[] #[.pointer (some ⟨b4, 0, none⟩), .pointer (some ⟨b3, 0, none⟩), .pointer (some ⟨b7, 0, none⟩)]
  | 10 => .func (.func 65) #[] #[]
  | 11 => .func (.func 66) #[] #[.pointer (some ⟨b7, 0, none⟩), .pointer (some ⟨b4, 0, none⟩)]
  | 12 => .func (.func 67) #[] #[.pointer (some ⟨b4, 0, none⟩)]
  | 13 => .func (.func 68) #[] #[.pointer (some ⟨b5, 0, none⟩)]
  | 14 => .func (.func 69) #[] #[.pointer (some ⟨b3, 0, none⟩)]
  | 15 => .func (.func 70) #[] #[.pointer (some ⟨b5, 0, none⟩)]
  | 16 => .func (.func 71) #[] #[.pointer (some ⟨b5, 0, none⟩), .pointer (some ⟨b3, 0, none⟩)]
  | 17 => .func (.func 72) #[] #[.pointer (some ⟨b4, 0, none⟩), .pointer (some ⟨b3, 0, none⟩)]
  | 18 => .func (.func 73) #[] #[.pointer (some ⟨b6, 0, none⟩)]
  | 19 => .func (.func 74) #[] #[.pointer (some ⟨b3, 0, none⟩)]
  | 20 => .func (.func 75) #[] #[.pointer (some ⟨b6, 0, none⟩), .pointer (some ⟨b5, 0, none⟩)]
  | 21 => .func (.func 76) #[] #[.pointer (some ⟨b2, 0, none⟩)]
  | 22 => .func (.func 77) #[] #[.pointer (some ⟨b5, 0, none⟩), .pointer (some ⟨b7, 0, none⟩)]
  | 23 => .func (.func 78) #[] #[.pointer (some ⟨b6, 0, none⟩), .pointer (some ⟨b5, 0, none⟩)]
  | _ => .nilFunc

theorem laws_cells (b2 b3 b4 b5 b6 b7 j : Nat) (hj : j < 24) :
    (lawsV b2 b3 b4 b5 b6 b7)[j * 5]? = some (sidesV b2 b3 b4 b5 b6 b7 j) ∧ (lawsV b2 b3 b4 b5 b6 b7)[j * 5 + 1]? = some (.bool (holdsb j)) ∧
    (lawsV b2 b3 b4 b5 b6 b7)[j * 5 + 2]? = some (.float .f64 (witb j).1) ∧ (lawsV b2 b3 b4 b5 b6 b7)[j * 5 + 3]? = some (.float .f64 (witb j).2.1) ∧ (lawsV b2 b3 b4 b5 b6 b7)[j * 5 + 4]? = some (.float .f64 (witb j).2.2) := by
  match j, hj with
  | 0, _ => exact ⟨rfl, rfl, rfl, rfl, rfl⟩
  | 1, _ => exact ⟨rfl, rfl, rfl, rfl, rfl⟩
  | 2, _ => exact ⟨rfl, rfl, rfl, rfl, rfl⟩
  | 3, _ => exact ⟨rfl, rfl, rfl, rfl, rfl⟩
  | 4, _ => exact ⟨rfl, rfl, rfl, rfl, rfl⟩
  | 5, _ => exact ⟨rfl, rfl, rfl, rfl, rfl⟩
  | 6, _ => exact ⟨rfl, rfl, rfl, rfl, rfl⟩
  | 7, _ => exact ⟨rfl, rfl, rfl, rfl, rfl⟩
  | 8, _ => exact ⟨rfl, rfl, rfl, rfl, rfl⟩
  | 9, _ => exact ⟨rfl, rfl, rfl, rfl, rfl⟩
  | 10, _ => exact ⟨rfl, rfl, rfl, rfl, rfl⟩
  | 11, _ => exact ⟨rfl, rfl, rfl, rfl, rfl⟩
  | 12, _ => exact ⟨rfl, rfl, rfl, rfl, rfl⟩
  | 13, _ => exact ⟨rfl, rfl, rfl, rfl, rfl⟩
  | 14, _ => exact ⟨rfl, rfl, rfl, rfl, rfl⟩
  | 15, _ => exact ⟨rfl, rfl, rfl, rfl, rfl⟩
  | 16, _ => exact ⟨rfl, rfl, rfl, rfl, rfl⟩
  | 17, _ => exact ⟨rfl, rfl, rfl, rfl, rfl⟩
  | 18, _ => exact ⟨rfl, rfl, rfl, rfl, rfl⟩
  | 19, _ => exact ⟨rfl, rfl, rfl, rfl, rfl⟩
  | 20, _ => exact ⟨rfl, rfl, rfl, rfl, rfl⟩
  | 21, _ => exact ⟨rfl, rfl, rfl, rfl, rfl⟩
  | 22, _ => exact ⟨rfl, rfl, rfl, rfl, rfl⟩
  | 23, _ => exact ⟨rfl, rfl, rfl, rfl, rfl⟩
  | j + 24, h => omega

theorem laws_size (b2 b3 b4 b5 b6 b7 : Nat) : (lawsV b2 b3 b4 b5 b6 b7).size = 120 := rfl

theorem laws_cell {w : World} {n i : Nat} {v : Value} (h : LawsAt n w) (e : (lawsV n (n + 1) (n + 1 + 1) (n + 1 + 1 + 1) (n + 1 + 1 + 1 + 1) (n + 1 + 1 + 1 + 1 + 1))[i]? = some v) : w.cell? ⟨n + 6, i, none⟩ = some v := by
  simp only [World.cell?, h.cells]
  exact e

def sideV (n j : Nat) : Value := sidesV n (n + 1) (n + 1 + 1) (n + 1 + 1 + 1) (n + 1 + 1 + 1 + 1) (n + 1 + 1 + 1 + 1 + 1) j

set_option maxHeartbeats 1000000 in
theorem holds_good (j : Nat) (hj : j < 24) (w : World) :
    Calls Try.prog 15 #[.int .i64 ((j : Int) + 1)] w fun e w' => e = .returned (.tuple #[.bool (holdsb j), .int .i64 0]) ∧ Below w.heap.size w w' := by
  go_enter Try.func15, Try.ntmps15
  go_wp2_with fail
  refine (laws_any _).mono ?_
  rintro e w1 ⟨rfl, hg, hB⟩
  have c1 := laws_cell hg (laws_cells _ _ _ _ _ _ j hj).2.1
  clear hg
  go_wp2_with fail
  go_ret2
  exact ⟨rfl, hB⟩

/-- A law that there is not. -/
def BadLaw (z : Int) : Prop := z < 1 ∨ 24 < z

set_option maxHeartbeats 1000000 in
theorem holds_bad (z : Int) (h : BadLaw z) (w : World) :
    Calls Try.prog 15 #[.int .i64 z] w fun e w' => e = .returned (.tuple #[.bool false, .int .i64 2]) ∧ w = w' := by
  rcases h with h | h
  · go_enter Try.func15, Try.ntmps15
    go_wp2_with fail
    go_ret2
    exact ⟨rfl, rfl⟩
  · have h1 : ¬ z < 1 := by omega
    go_enter Try.func15, Try.ntmps15
    go_wp2_with fail
    go_ret2
    exact ⟨rfl, rfl⟩

set_option maxHeartbeats 1000000 in
theorem witness_bad (z : Int) (h : BadLaw z) (w : World) :
    Calls Try.prog 16 #[.int .i64 z] w fun e w' => e = .returned (.tuple #[.float .f64 0, .float .f64 0, .float .f64 0, .int .i64 2]) ∧ w = w' := by
  have H := fun W => holds_bad z h W
  clear h
  go_enter Try.func16, Try.ntmps16
  go_wp2_with fail
  refine (H _).mono ?_
  rintro e _ ⟨rfl, rfl⟩
  go_wp2_with fail
  refine bodyPost_ret (v := .tuple #[.float .f64 0, .float .f64 0, .float .f64 0, .int .i64 2]) (by simp [results, Try.results16, go_sem]) rfl ⟨rfl, rfl⟩

set_option maxHeartbeats 1000000 in
theorem witness_none (j : Nat) (hj : j < 24) (hh : holdsb j = true) (w : World) :
    Calls Try.prog 16 #[.int .i64 ((j : Int) + 1)] w fun e w' => e = .returned (.tuple #[.float .f64 0, .float .f64 0, .float .f64 0, .int .i64 6]) ∧ Below w.heap.size w w' := by
  have H := fun W => holds_good j hj W
  rw [hh] at H
  clear hh
  go_enter Try.func16, Try.ntmps16
  go_wp2_with fail
  refine (H _).mono ?_
  rintro e w1 ⟨rfl, hB⟩
  go_wp2_with fail
  refine bodyPost_ret (v := .tuple #[.float .f64 0, .float .f64 0, .float .f64 0, .int .i64 6]) (by simp [results, Try.results16, go_sem]) rfl ⟨rfl, hB⟩

set_option maxHeartbeats 1000000 in
theorem witness_good (j : Nat) (hj : j < 24) (hh : holdsb j = false) (w : World) :
    Calls Try.prog 16 #[.int .i64 ((j : Int) + 1)] w fun e w' => e = .returned (.tuple #[.float .f64 (witb j).1, .float .f64 (witb j).2.1, .float .f64 (witb j).2.2, .int .i64 0]) ∧ Below w.heap.size w w' := by
  have H := fun W => holds_good j hj W
  rw [hh] at H
  clear hh
  go_enter Try.func16, Try.ntmps16
  go_wp2_with fail
  refine (H _).mono ?_
  rintro e w1 ⟨rfl, hB⟩
  go_wp2_with fail
  refine (laws_any _).mono ?_
  rintro e w2 ⟨rfl, hg, hN⟩
  replace hB := hB.trans (hN.mono hB.size)
  have c0 := laws_cell hg (laws_cells _ _ _ _ _ _ j hj).2.2.1
  have c1 := laws_cell hg (laws_cells _ _ _ _ _ _ j hj).2.2.2.1
  have c2 := laws_cell hg (laws_cells _ _ _ _ _ _ j hj).2.2.2.2
  clear hg hN
  go_wp2_with fail
  go_quiet (fail)
  go_wp2_with fail
  refine bodyPost_ret (v := .tuple #[.float .f64 (witb j).1, .float .f64 (witb j).2.1, .float .f64 (witb j).2.2, .int .i64 0]) (by simp [results, Try.results16, go_sem]) rfl ⟨rfl, below_drewN' (hB.alloc hB.size _) _⟩

theorem LawsAt.below {n : Nat} {w w' : World} (h : LawsAt n w) (hl : n + 6 < w.heap.size) (hB : Below w.heap.size w w') : LawsAt n w' :=
  ⟨(hB.block _ hl).trans h.cells, h.caps.below hB⟩
theorem LawsAt.lt {n : Nat} {w : World} (h : LawsAt n w) : n + 6 < w.heap.size := (Array.getElem?_eq_some_iff.1 h.cells).1

set_option maxRecDepth 100000 in
set_option maxHeartbeats 1000000 in
theorem sides_good (j : Nat) (hj : j < 24) (x y z : Nat) (w : World) (hx : x < 2 ^ 64) (hy : y < 2 ^ 64) (hz : z < 2 ^ 64) :
    Calls Try.prog 14 #[.int .i64 ((j : Int) + 1), .float .f64 x, .float .f64 y, .float .f64 z] w fun e w' => e = .returned (.tuple #[.float .f64 (sidesb (j + 1) (canonb x) (canonb y) (canonb z)).1, .float .f64 (sidesb (j + 1) (canonb x) (canonb y) (canonb z)).2, .int .i64 0]) ∧ Below w.heap.size w w' := by
  go_enter Try.func14, Try.ntmps14
  go_wp2_with fail
  refine region_mixC [(1, .inl none), (2, .inl none), (6, .inl none), (8, .inl none), (10, .inl none), (0, .inr [0]), (3, .inl none), (4, .inl none), (5, .inl (some 0)), (7, .inr [0]), (9, .inr [0]), (11, .inr [0]), (12, .inr [0]), (13, .inl none), (14, .inl none), (15, .inl none), (16, .inl none), (17, .inl none)]
    (fun _ W => LawsAt w.heap.size W) [] (by kernel_rfl) (by kernel_rfl) (fun k hk => by cases hk) ?_
  have hB : Below w.heap.size w (w.drewN 1) := below_drewN' (Below.refl _ _) 1
  have hwr : IntKind.i64.wrap (j : Int) = (j : Int) := by rw [IntKind.wrap_i64]; omega
  have hnn : (0 : Int) ≤ (j : Int) ∧ (j : Int) < 24 := by omega
  have hz1 : (w.drewN 1).heap.size = w.heap.size := rfl
  generalize hw0 : w.drewN 1 = w1 at hB hz1 ⊢
  clear hw0
  refine mix_free_k (by rfl) (fun K hK => ?_)
  go_simp
  refine hK _ ?_
  clear hK K
  refine mix_free_k (by rfl) (fun K hK => ?_)
  go_simp
  refine hK _ ?_
  clear hK K
  refine mix_free_k (by rfl) (fun K hK => ?_)
  go_simp
  refine hK _ ?_
  clear hK K
  refine mix_free_k (by rfl) (fun K hK => ?_)
  go_simp
  refine hK _ ?_
  clear hK K
  refine mix_free_k (by rfl) (fun K hK => ?_)
  go_simp
  refine hK _ ?_
  clear hK K
  refine mix_step_n (by rfl) rfl (fun K hK => ?_)
  go_wp2_with fail
  refine (laws_any _).mono ?_
  rw [hz1]
  rintro e w2 ⟨rfl, hg, hN⟩
  replace hB := hB.trans hN
  clear hN hz1
  go_wp2_with fail
  refine hK _ _ (fun _ _ => hg) ?_
  clear hK K
  refine mix_free_k (by rfl) (fun K hK => ?_)
  go_simp
  refine hK _ ?_
  clear hK K
  refine mix_free_k (by rfl) (fun K hK => ?_)
  go_simp
  refine hK _ ?_
  clear hK K
  refine mix_val_k (by rfl) (sideV w.heap.size j) (by rfl) (fun w' hw' => ?_) (fun K hK => ?_)
  · have c := laws_cell hw' (laws_cells _ _ _ _ _ _ j hj).1
    unfold sideV
    go_simp
  go_simp
  refine hK _ ?_
  clear hK K
  refine mix_step_n (by rfl) rfl (fun K hK => ?_)
  go_wp2_with fail
  refine (canon_any _ _ hx).mono ?_
  rintro e _ ⟨rfl, rfl⟩
  go_wp2_with fail
  refine hK _ _ (fun _ _ => hg) ?_
  clear hK K
  refine mix_step_n (by rfl) rfl (fun K hK => ?_)
  go_wp2_with fail
  refine (canon_any _ _ hy).mono ?_
  rintro e _ ⟨rfl, rfl⟩
  go_wp2_with fail
  refine hK _ _ (fun _ _ => hg) ?_
  clear hK K
  refine mix_step_n (by rfl) rfl (fun K hK => ?_)
  go_wp2_with fail
  refine (canon_any _ _ hz).mono ?_
  rintro e _ ⟨rfl, rfl⟩
  go_wp2_with fail
  refine hK _ _ (fun _ _ => hg) ?_
  clear hK K
  refine mix_step_n (by rfl) rfl (fun K hK => ?_)
  have hR : ∀ (p q : Nat) (W : World), LawsAt w.heap.size W → Below w.heap.size w W → p = (sidesb (j + 1) (canonb x) (canonb y) (canonb z)).1 → q = (sidesb (j + 1) (canonb x) (canonb y) (canonb z)).2 → K {
      tmps :=
        #[Value.int IntKind.i64 (↑j + 1), Value.float FloatKind.f64 x, Value.float FloatKind.f64 y,
          Value.float FloatKind.f64 z, undef, undef, undef, undef, Value.float FloatKind.f64 0,
          Value.float FloatKind.f64 0, Value.int IntKind.i64 0, undef, undef, Value.int IntKind.i64 (↑j + 1),
          Value.bool (decide ((j : Int) + 1 < 1)), Value.bool (decide ((j : Int) + 1 < 1)), Value.int IntKind.i64 (↑j + 1),
          Value.bool (decide (24 < (j : Int) + 1)), Value.bool (decide ((j : Int) + 1 < 1) || decide (24 < (j : Int) + 1)), undef,
          Value.slice (some { block := w.heap.size + 6, off := 0 }) 24 24, Value.int IntKind.i64 (↑j + 1),
          Value.int IntKind.i64 ↑j, Value.pointer (some { block := w.heap.size + 6, off := j * 5 }),
          Value.pointer (some { block := w.heap.size + 6, off := j * 5 }), sideV w.heap.size j,
          Value.float FloatKind.f64 x, Value.float FloatKind.f64 (canonb x), Value.float FloatKind.f64 y,
          Value.float FloatKind.f64 (canonb y), Value.float FloatKind.f64 z, Value.float FloatKind.f64 (canonb z),
          .tuple #[.float .f64 p, .float .f64 q], undef, undef, undef, undef],
      defers := [] } W := by
    intro p q W hW hBW hp hq
    have Hp := Lib.hid hp
    have Hq := Lib.hid hq
    clear hp hq
    refine hK _ _ (fun _ _ => hW) ?_
    clear hK K
    refine mix_free_k (by rfl) (fun K hK => ?_)
    go_simp
    refine hK _ ?_
    clear hK K
    refine mix_free_k (by rfl) (fun K hK => ?_)
    go_simp
    refine hK _ ?_
    clear hK K
    refine mix_free_k (by rfl) (fun K hK => ?_)
    go_simp
    refine hK _ ?_
    clear hK K
    refine mix_free_k (by rfl) (fun K hK => ?_)
    go_simp
    refine hK _ ?_
    clear hK K
    refine mix_free_k (by rfl) (fun K hK => ?_)
    go_simp
    refine hK _ ?_
    clear hK K
    refine mix_nil_k ?_
    go_wp2_with fail
    go_ret3
    exact ⟨by rw [← Hp.out, ← Hq.out]; rfl, hBW⟩
  clear hK
  have hcx := canonb_lt x hx
  have hcy := canonb_lt y hy
  have hcz := canonb_lt z hz
  have hjc : j = 0 ∨ j = 1 ∨ j = 2 ∨ j = 3 ∨ j = 4 ∨ j = 5 ∨ j = 6 ∨ j = 7 ∨ j = 8 ∨ j = 9 ∨ j = 10 ∨ j = 11 ∨ j = 12 ∨ j = 13 ∨ j = 14 ∨ j = 15 ∨ j = 16 ∨ j = 17 ∨ j = 18 ∨ j = 19 ∨ j = 20 ∨ j = 21 ∨ j = 22 ∨ j = 23 := by omega
  rcases hjc with hje | hje | hje | hje | hje | hje | hje | hje | hje | hje | hje | hje | hje | hje | hje | hje | hje | hje | hje | hje | hje | hje | hje | hje
  · have hs : sideV w.heap.size j = .func (.func 55) #[] #[.pointer (some ⟨w.heap.size + 1, 0, none⟩)] := by rw [hje]; rfl
    have Hj := Lib.hid hje
    clear hje
    rw [hs] at hR
    rw [hs]
    clear hs
    go_wp2_with fail
    refine (law_1 _ _ _ _ _ hcx hcy hcz hg.caps.c3).mono ?_
    rintro e w3 ⟨rfl, hN⟩
    go_wp2_with fail
    exact hR _ _ _ (hg.below hg.lt hN) (hB.trans (hN.mono hB.size)) (by rw [Hj.out]; rfl) (by rw [Hj.out]; rfl)
  · have hs : sideV w.heap.size j = .func (.func 56) #[] #[.pointer (some ⟨w.heap.size + 1 + 1 + 1, 0, none⟩)] := by rw [hje]; rfl
    have Hj := Lib.hid hje
    clear hje
    rw [hs] at hR
    rw [hs]
    clear hs
    go_wp2_with fail
    refine (law_2 _ _ _ _ _ hcx hcy hcz hg.caps.c5).mono ?_
    rintro e w3 ⟨rfl, hN⟩
    go_wp2_with fail
    exact hR _ _ _ (hg.below hg.lt hN) (hB.trans (hN.mono hB.size)) (by rw [Hj.out]; rfl) (by rw [Hj.out]; rfl)
  · have hs : sideV w.heap.size j = .func (.func 57) #[] #[] := by rw [hje]; rfl
    have Hj := Lib.hid hje
    clear hje
    rw [hs] at hR
    rw [hs]
    clear hs
    go_wp2_with fail
    refine (law_3 _ _ _ _ hcx hcy hcz ).mono ?_
    rintro e w3 ⟨rfl, hN⟩
    go_wp2_with fail
    exact hR _ _ _ (hg.below hg.lt hN) (hB.trans (hN.mono hB.size)) (by rw [Hj.out]; rfl) (by rw [Hj.out]; rfl)
  · have hs : sideV w.heap.size j = .func (.func 58) #[] #[] := by rw [hje]; rfl
    have Hj := Lib.hid hje
    clear hje
    rw [hs] at hR
    rw [hs]
    clear hs
    go_wp2_with fail
    refine (law_4 _ _ _ _ hcx hcy hcz ).mono ?_
    rintro e w3 ⟨rfl, hN⟩
    go_wp2_with fail
    exact hR _ _ _ (hg.below hg.lt hN) (hB.trans (hN.mono hB.size)) (by rw [Hj.out]; rfl) (by rw [Hj.out]; rfl)
  · have hs : sideV w.heap.size j = .func (.func 59) #[] #[.pointer (some ⟨w.heap.size + 1 + 1 + 1, 0, none⟩)] := by rw [hje]; rfl
    have Hj := Lib.hid hje
    clear hje
    rw [hs] at hR
    rw [hs]
    clear hs
    go_wp2_with fail
    refine (law_5 _ _ _ _ _ hcx hcy hcz hg.caps.c5).mono ?_
    rintro e w3 ⟨rfl, hN⟩
    go_wp2_with fail
    exact hR _ _ _ (hg.below hg.lt hN) (hB.trans (hN.mono hB.size)) (by rw [Hj.out]; rfl) (by rw [Hj.out]; rfl)
  · have hs : sideV w.heap.size j = .func (.func 60) #[] #[.pointer (some ⟨w.heap.size + 1 + 1 + 1 + 1, 0, none⟩)] := by rw [hje]; rfl
    have Hj := Lib.hid hje
    clear hje
    rw [hs] at hR
    rw [hs]
    clear hs
    go_wp2_with fail
    refine (law_6 _ _ _ _ _ hcx hcy hcz hg.caps.c6).mono ?_
    rintro e w3 ⟨rfl, hN⟩
    go_wp2_with fail
    exact hR _ _ _ (hg.below hg.lt hN) (hB.trans (hN.mono hB.size)) (by rw [Hj.out]; rfl) (by rw [Hj.out]; rfl)
  · have hs : sideV w.heap.size j = .func (.func 61) #[] #[.pointer (some ⟨w.heap.size + 1 + 1, 0, none⟩)] := by rw [hje]; rfl
    have Hj := Lib.hid hje
    clear hje
    rw [hs] at hR
    rw [hs]
    clear hs
    go_wp2_with fail
    refine (law_7 _ _ _ _ _ hcx hcy hcz hg.caps.c4).mono ?_
    rintro e w3 ⟨rfl, hN⟩
    go_wp2_with fail
    exact hR _ _ _ (hg.below hg.lt hN) (hB.trans (hN.mono hB.size)) (by rw [Hj.out]; rfl) (by rw [Hj.out]; rfl)
  · have hs : sideV w.heap.size j = .func (.func 62) #[] #[.pointer (some ⟨w.heap.size + 1, 0, none⟩)] := by rw [hje]; rfl
    have Hj := Lib.hid hje
    clear hje
    rw [hs] at hR
    rw [hs]
    clear hs
    go_wp2_with fail
    refine (law_8 _ _ _ _ _ hcx hcy hcz hg.caps.c3).mono ?_
    rintro e w3 ⟨rfl, hN⟩
    go_wp2_with fail
    exact hR _ _ _ (hg.below hg.lt hN) (hB.trans (hN.mono hB.size)) (by rw [Hj.out]; rfl) (by rw [Hj.out]; rfl)
  · have hs : sideV w.heap.size j = .func (.func 63) #[] #[.pointer (some ⟨w.heap.size + 1 + 1 + 1 + 1 + 1, 0, none⟩)] := by rw [hje]; rfl
    have Hj := Lib.hid hje
    clear hje
    rw [hs] at hR
    rw [hs]
    clear hs
    go_wp2_with fail
    refine (law_9 _ _ _ _ _ hcx hcy hcz hg.caps.c7).mono ?_
    rintro e w3 ⟨rfl, hN⟩
    go_wp2_with fail
    exact hR _ _ _ (hg.below hg.lt hN) (hB.trans (hN.mono hB.size)) (by rw [Hj.out]; rfl) (by rw [Hj.out]; rfl)
  · have hs : sideV w.heap.size j = .func (.func 64) #[] #[.pointer (some ⟨w.heap.size + 1 + 1, 0, none⟩), .pointer (some ⟨w.heap.size + 1, 0, none⟩), .pointer (some ⟨w.heap.size + 1 + 1 + 1 + 1 + 1, 0, none⟩)] := by rw [hje]; rfl
    have Hj := Lib.hid hje
    clear hje
    rw [hs] at hR
    rw [hs]
    clear hs
    go_wp2_with fail
    refine (law_10 _ _ _ _ _ _ _ hcx hcy hcz hg.caps.c4 hg.caps.c3 hg.caps.c7).mono ?_
    rintro e w3 ⟨rfl, hN⟩
    go_wp2_with fail
    exact hR _ _ _ (hg.below hg.lt hN) (hB.trans (hN.mono hB.size)) (by rw [Hj.out]; rfl) (by rw [Hj.out]; rfl)
  · have hs : sideV w.heap.size j = .func (.func 65) #[] #[] := by rw [hje]; rfl
    have Hj := Lib.hid hje
    clear hje
    rw [hs] at hR
    rw [hs]
    clear hs
    go_wp2_with fail
    refine (law_11 _ _ _ _ hcx hcy hcz ).mono ?_
    rintro e w3 ⟨rfl, hN⟩
    go_wp2_with fail
    exact hR _ _ _ (hg.below hg.lt hN) (hB.trans (hN.mono hB.size)) (by rw [Hj.out]; rfl) (by rw [Hj.out]; rfl)
  · have hs : sideV w.heap.size j = .func (.func 66) #[] #[.pointer (some ⟨w.heap.size + 1 + 1 + 1 + 1 + 1, 0, none⟩), .pointer (some ⟨w.heap.size + 1 + 1, 0, none⟩)] := by rw [hje]; rfl
    have Hj := Lib.hid hje
    clear hje
    rw [hs] at hR
    rw [hs]
    clear hs
    go_wp2_with fail
    refine (law_12 _ _ _ _ _ _ hcx hcy hcz hg.caps.c7 hg.caps.c4).mono ?_
    rintro e w3 ⟨rfl, hN⟩
    go_wp2_with fail
    exact hR _ _ _ (hg.below hg.lt hN) (hB.trans (hN.mono hB.size)) (by rw [Hj.out]; rfl) (by rw [Hj.out]; rfl)
  · have hs : sideV w.heap.size j = .func (.func 67) #[] #[.pointer (some ⟨w.heap.size + 1 + 1, 0, none⟩)] := by rw [hje]; rfl
    have Hj := Lib.hid hje
    clear hje
    rw [hs] at hR
    rw [hs]
    clear hs
    go_wp2_with fail
    refine (law_13 _ _ _ _ _ hcx hcy hcz hg.caps.c4).mono ?_
    rintro e w3 ⟨rfl, hN⟩
    go_wp2_with fail
    exact hR _ _ _ (hg.below hg.lt hN) (hB.trans (hN.mono hB.size)) (by rw [Hj.out]; rfl) (by rw [Hj.out]; rfl)
  · have hs : sideV w.heap.size j = .func (.func 68) #[] #[.pointer (some ⟨w.heap.size + 1 + 1 + 1, 0, none⟩)] := by rw [hje]; rfl
    have Hj := Lib.hid hje
    clear hje
    rw [hs] at hR
    rw [hs]
    clear hs
    go_wp2_with fail
    refine (law_14 _ _ _ _ _ hcx hcy hcz hg.caps.c5).mono ?_
    rintro e w3 ⟨rfl, hN⟩
    go_wp2_with fail
    exact hR _ _ _ (hg.below hg.lt hN) (hB.trans (hN.mono hB.size)) (by rw [Hj.out]; rfl) (by rw [Hj.out]; rfl)
  · have hs : sideV w.heap.size j = .func (.func 69) #[] #[.pointer (some ⟨w.heap.size + 1, 0, none⟩)] := by rw [hje]; rfl
    have Hj := Lib.hid hje
    clear hje
    rw [hs] at hR
    rw [hs]
    clear hs
    go_wp2_with fail
    refine (law_15 _ _ _ _ _ hcx hcy hcz hg.caps.c3).mono ?_
    rintro e w3 ⟨rfl, hN⟩
    go_wp2_with fail
    exact hR _ _ _ (hg.below hg.lt hN) (hB.trans (hN.mono hB.size)) (by rw [Hj.out]; rfl) (by rw [Hj.out]; rfl)
  · have hs : sideV w.heap.size j = .func (.func 70) #[] #[.pointer (some ⟨w.heap.size + 1 + 1 + 1, 0, none⟩)] := by rw [hje]; rfl
    have Hj := Lib.hid hje
    clear hje
    rw [hs] at hR
    rw [hs]
    clear hs
    go_wp2_with fail
    refine (law_16 _ _ _ _ _ hcx hcy hcz hg.caps.c5).mono ?_
    rintro e w3 ⟨rfl, hN⟩
    go_wp2_with fail
    exact hR _ _ _ (hg.below hg.lt hN) (hB.trans (hN.mono hB.size)) (by rw [Hj.out]; rfl) (by rw [Hj.out]; rfl)
  · have hs : sideV w.heap.size j = .func (.func 71) #[] #[.pointer (some ⟨w.heap.size + 1 + 1 + 1, 0, none⟩), .pointer (some ⟨w.heap.size + 1, 0, none⟩)] := by rw [hje]; rfl
    have Hj := Lib.hid hje
    clear hje
    rw [hs] at hR
    rw [hs]
    clear hs
    go_wp2_with fail
    refine (law_17 _ _ _ _ _ _ hcx hcy hcz hg.caps.c5 hg.caps.c3).mono ?_
    rintro e w3 ⟨rfl, hN⟩
    go_wp2_with fail
    exact hR _ _ _ (hg.below hg.lt hN) (hB.trans (hN.mono hB.size)) (by rw [Hj.out]; rfl) (by rw [Hj.out]; rfl)
  · have hs : sideV w.heap.size j = .func (.func 72) #[] #[.pointer (some ⟨w.heap.size + 1 + 1, 0, none⟩), .pointer (some ⟨w.heap.size + 1, 0, none⟩)] := by rw [hje]; rfl
    have Hj := Lib.hid hje
    clear hje
    rw [hs] at hR
    rw [hs]
    clear hs
    go_wp2_with fail
    refine (law_18 _ _ _ _ _ _ hcx hcy hcz hg.caps.c4 hg.caps.c3).mono ?_
    rintro e w3 ⟨rfl, hN⟩
    go_wp2_with fail
    exact hR _ _ _ (hg.below hg.lt hN) (hB.trans (hN.mono hB.size)) (by rw [Hj.out]; rfl) (by rw [Hj.out]; rfl)
  · have hs : sideV w.heap.size j = .func (.func 73) #[] #[.pointer (some ⟨w.heap.size + 1 + 1 + 1 + 1, 0, none⟩)] := by rw [hje]; rfl
    have Hj := Lib.hid hje
    clear hje
    rw [hs] at hR
    rw [hs]
    clear hs
    go_wp2_with fail
    refine (law_19 _ _ _ _ _ hcx hcy hcz hg.caps.c6).mono ?_
    rintro e w3 ⟨rfl, hN⟩
    go_wp2_with fail
    exact hR _ _ _ (hg.below hg.lt hN) (hB.trans (hN.mono hB.size)) (by rw [Hj.out]; rfl) (by rw [Hj.out]; rfl)
  · have hs : sideV w.heap.size j = .func (.func 74) #[] #[.pointer (some ⟨w.heap.size + 1, 0, none⟩)] := by rw [hje]; rfl
    have Hj := Lib.hid hje
    clear hje
    rw [hs] at hR
    rw [hs]
    clear hs
    go_wp2_with fail
    refine (law_20 _ _ _ _ _ hcx hcy hcz hg.caps.c3).mono ?_
    rintro e w3 ⟨rfl, hN⟩
    go_wp2_with fail
    exact hR _ _ _ (hg.below hg.lt hN) (hB.trans (hN.mono hB.size)) (by rw [Hj.out]; rfl) (by rw [Hj.out]; rfl)
  · have hs : sideV w.heap.size j = .func (.func 75) #[] #[.pointer (some ⟨w.heap.size + 1 + 1 + 1 + 1, 0, none⟩), .pointer (some ⟨w.heap.size + 1 + 1 + 1, 0, none⟩)] := by rw [hje]; rfl
    have Hj := Lib.hid hje
    clear hje
    rw [hs] at hR
    rw [hs]
    clear hs
    go_wp2_with fail
    refine (law_21 _ _ _ _ _ _ hcx hcy hcz hg.caps.c6 hg.caps.c5).mono ?_
    rintro e w3 ⟨rfl, hN⟩
    go_wp2_with fail
    exact hR _ _ _ (hg.below hg.lt hN) (hB.trans (hN.mono hB.size)) (by rw [Hj.out]; rfl) (by rw [Hj.out]; rfl)
  · have hs : sideV w.heap.size j = .func (.func 76) #[] #[.pointer (some ⟨w.heap.size, 0, none⟩)] := by rw [hje]; rfl
    have Hj := Lib.hid hje
    clear hje
    rw [hs] at hR
    rw [hs]
    clear hs
    go_wp2_with fail
    refine (law_22 _ _ _ _ _ hcx hcy hcz hg.caps.c2).mono ?_
    rintro e w3 ⟨rfl, hN⟩
    go_wp2_with fail
    exact hR _ _ _ (hg.below hg.lt hN) (hB.trans (hN.mono hB.size)) (by rw [Hj.out]; rfl) (by rw [Hj.out]; rfl)
  · have hs : sideV w.heap.size j = .func (.func 77) #[] #[.pointer (some ⟨w.heap.size + 1 + 1 + 1, 0, none⟩), .pointer (some ⟨w.heap.size + 1 + 1 + 1 + 1 + 1, 0, none⟩)] := by rw [hje]; rfl
    have Hj := Lib.hid hje
    clear hje
    rw [hs] at hR
    rw [hs]
    clear hs
    go_wp2_with fail
    refine (law_23 _ _ _ _ _ _ hcx hcy hcz hg.caps.c5 hg.caps.c7).mono ?_
    rintro e w3 ⟨rfl, hN⟩
    go_wp2_with fail
    exact hR _ _ _ (hg.below hg.lt hN) (hB.trans (hN.mono hB.size)) (by rw [Hj.out]; rfl) (by rw [Hj.out]; rfl)
  · have hs : sideV w.heap.size j = .func (.func 78) #[] #[.pointer (some ⟨w.heap.size + 1 + 1 + 1 + 1, 0, none⟩), .pointer (some ⟨w.heap.size + 1 + 1 + 1, 0, none⟩)] := by rw [hje]; rfl
    have Hj := Lib.hid hje
    clear hje
    rw [hs] at hR
    rw [hs]
    clear hs
    go_wp2_with fail
    refine (law_24 _ _ _ _ _ _ hcx hcy hcz hg.caps.c6 hg.caps.c5).mono ?_
    rintro e w3 ⟨rfl, hN⟩
    go_wp2_with fail
    exact hR _ _ _ (hg.below hg.lt hN) (hB.trans (hN.mono hB.size)) (by rw [Hj.out]; rfl) (by rw [Hj.out]; rfl)
end Go.Proofs.Ytajipgcnpemifaa
