/- The contracts of the laws' sides. -/
import Derived.Test.YtajipgcnpemifaaK
import Derived.Test.YtajipgcnpemifaaS
namespace Go.Proofs.Ytajipgcnpemifaa
open Go.RowKit Ieee

/-- A variable that holds a function. -/
structure FnAt (w : World) (a F : Nat) : Prop where
  cell : w.cell? ⟨a, 0, none⟩ = some (.func (.func F) #[] #[])
  lt : a < w.heap.size
/-- A variable that holds the infinite number. -/
structure FlAt (w : World) (a : Nat) : Prop where
  cell : w.cell? ⟨a, 0, none⟩ = some (.float .f64 9218868437227405312)
  lt : a < w.heap.size
theorem FnAt.below {w w' : World} {a F : Nat} (h : FnAt w a F) (hB : Below w.heap.size w w') : FnAt w' a F :=
  ⟨(hB.cell (p := ⟨a, 0, none⟩) h.lt).trans h.cell, Nat.lt_of_lt_of_le h.lt hB.size⟩
theorem FlAt.below {w w' : World} {a : Nat} (h : FlAt w a) (hB : Below w.heap.size w w') : FlAt w' a :=
  ⟨(hB.cell (p := ⟨a, 0, none⟩) h.lt).trans h.cell, Nat.lt_of_lt_of_le h.lt hB.size⟩
theorem below_drewN' {B : Nat} {a w : World} (h : Below B a w) (n : Nat) : Below B a (w.drewN n) := h.trans ⟨rfl, rfl, rfl, Nat.le_refl _, fun _ _ => rfl⟩
theorem FnAt.drewN {w : World} {a F : Nat} (h : FnAt w a F) (n : Nat) : FnAt (w.drewN n) a F := h.below (below_drewN' (Below.refl _ _) n)

theorem fop_lt (op : BinOp) (x y : Nat) : fop op x y < 2 ^ 64 := by
  unfold fop
  cases h : floatBits op .f64 x y with
  | none => exact nanb_lt
  | some r => exact (some_num h).2
theorem dob_lt (k x y : Nat) (hx : x < 2 ^ 64) (hy : y < 2 ^ 64) : dob k x y < 2 ^ 64 := by
  unfold dob
  split
  · exact canonb_lt _ (turned_lt _ hx)
  · exact fop_lt _ _ _
  · exact fop_lt _ _ _
  · exact fop_lt _ _ _
  · exact fop_lt _ _ _
  · exact canonb_lt _ (leastb_lt _ _ hx hy)
  · exact canonb_lt _ (turned_lt _ (leastb_lt _ _ (turned_lt _ hx) (turned_lt _ hy)))
  · decide

theorem zero_any (w : World) : Calls Try.prog 38 #[] w fun e w' => e = .returned (.float .f64 9223372036854775808) ∧ w = w' := by
  have h := neg_run 0 (by decide)
  rw [show turned 0 = 9223372036854775808 from rfl] at h
  go_enter Try.func38, Try.ntmps38
  go_wp2
  go_ret
  exact ⟨rfl, rfl⟩

theorem fn_50 (x y : Nat) (w : World) (hx : x < 2 ^ 64) (hy : y < 2 ^ 64) :
    Calls Try.prog 50 #[.float .f64 x, .float .f64 y] w fun e w' => e = .returned (.float .f64 (dob 2 x y)) ∧ Below w.heap.size w w' := by
  go_enter Try.func50, Try.ntmps50
  go_wp2_with fail
  refine (do_2 _ _ _ hx hy).mono ?_
  rintro e w1 ⟨rfl, hB⟩
  go_wp2_with fail
  go_ret
  exact ⟨rfl, hB⟩
theorem fn_51 (x y : Nat) (w : World) (hx : x < 2 ^ 64) (hy : y < 2 ^ 64) :
    Calls Try.prog 51 #[.float .f64 x, .float .f64 y] w fun e w' => e = .returned (.float .f64 (dob 3 x y)) ∧ Below w.heap.size w w' := by
  go_enter Try.func51, Try.ntmps51
  go_wp2_with fail
  refine (do_3 _ _ _ hx hy).mono ?_
  rintro e w1 ⟨rfl, hB⟩
  go_wp2_with fail
  go_ret
  exact ⟨rfl, hB⟩
theorem fn_52 (x y : Nat) (w : World) (hx : x < 2 ^ 64) (hy : y < 2 ^ 64) :
    Calls Try.prog 52 #[.float .f64 x, .float .f64 y] w fun e w' => e = .returned (.float .f64 (dob 4 x y)) ∧ Below w.heap.size w w' := by
  go_enter Try.func52, Try.ntmps52
  go_wp2_with fail
  refine (do_4 _ _ _ hx hy).mono ?_
  rintro e w1 ⟨rfl, hB⟩
  go_wp2_with fail
  go_ret
  exact ⟨rfl, hB⟩
theorem fn_53 (x y : Nat) (w : World) (hx : x < 2 ^ 64) (hy : y < 2 ^ 64) :
    Calls Try.prog 53 #[.float .f64 x, .float .f64 y] w fun e w' => e = .returned (.float .f64 (dob 5 x y)) ∧ Below w.heap.size w w' := by
  go_enter Try.func53, Try.ntmps53
  go_wp2_with fail
  refine (do_5 _ _ _ hx hy).mono ?_
  rintro e w1 ⟨rfl, hB⟩
  go_wp2_with fail
  go_ret
  exact ⟨rfl, hB⟩
theorem fn_54 (x : Nat) (w : World) (hx : x < 2 ^ 64) :
    Calls Try.prog 54 #[.float .f64 x] w fun e w' => e = .returned (.float .f64 (dob 1 x 0)) ∧ Below w.heap.size w w' := by
  go_enter Try.func54, Try.ntmps54
  go_wp2_with fail
  refine (do_1 _ _ _ hx (by decide)).mono ?_
  rintro e w1 ⟨rfl, hB⟩
  go_wp2_with fail
  go_ret
  exact ⟨rfl, hB⟩

set_option maxHeartbeats 1000000 in
theorem law_1 (x y z a : Nat) (w : World) (hx : x < 2 ^ 64) (hy : y < 2 ^ 64) (hz : z < 2 ^ 64) (ha : FnAt w a 50) :
    Calls Try.prog 55 #[.float .f64 x, .float .f64 y, .float .f64 z, .pointer (some ⟨a, 0, none⟩)] w fun e w' => e = .returned (.tuple #[.float .f64 (dob 2 x y), .float .f64 (dob 2 y x)]) ∧ Below w.heap.size w w' := by
  go_enter Try.func55, Try.ntmps55
  go_wp2_with fail
  refine region_mix [(0, .inl (some 0)), (1, .inl none), (2, .inl none), (4, .inl (some 0)), (5, .inl none), (6, .inl none), (3, .inr [0]), (7, .inr [0]), (8, .inl none), (9, .inl none)]
    (fun _ W => FnAt W a 50) (by kernel_rfl) (by kernel_rfl) (fun _ => ha.drewN 1) ?_
  simp only [pickK, List.filterMap_cons, List.filterMap_nil, List.getElem?_toArray, List.getElem?_cons_zero, List.getElem?_cons_succ, Option.map_some]
  have hB : Below w.heap.size w (w.drewN 1) := below_drewN' (Below.refl _ _) 1
  replace ha := ha.drewN 1
  generalize hw0 : w.drewN 1 = w0 at hB ha ⊢
  clear hw0
  refine mix_val (.func (.func 50) #[] #[]) (by rfl) (fun w' hw' => ?_) (fun K hK => ?_)
  · have c := hw'.cell
    go_simp
  go_simp
  refine hK _ ?_
  clear hK K
  refine mix_free (fun K hK => ?_)
  go_simp
  refine hK _ ?_
  clear hK K
  refine mix_free (fun K hK => ?_)
  go_simp
  refine hK _ ?_
  clear hK K
  refine mix_val (.func (.func 50) #[] #[]) (by rfl) (fun w' hw' => ?_) (fun K hK => ?_)
  · have c := hw'.cell
    go_simp
  go_simp
  refine hK _ ?_
  clear hK K
  refine mix_free (fun K hK => ?_)
  go_simp
  refine hK _ ?_
  clear hK K
  refine mix_free (fun K hK => ?_)
  go_simp
  refine hK _ ?_
  clear hK K
  refine mix_step (fun K hK => ?_) (fun _ _ => ha)
  go_wp2_with fail
  refine (fn_50 _ _ _ hx hy).mono ?_
  rintro e w1 ⟨rfl, hN⟩
  replace ha := ha.below hN
  replace hB := hB.trans (hN.mono hB.size)
  clear hN
  go_wp2_with fail
  refine hK _ _ (fun _ _ => ha) ?_
  clear hK K
  refine mix_step (fun K hK => ?_) (fun _ _ => ha)
  go_wp2_with fail
  refine (fn_50 _ _ _ hy hx).mono ?_
  rintro e w2 ⟨rfl, hN⟩
  replace ha := ha.below hN
  replace hB := hB.trans (hN.mono hB.size)
  clear hN
  go_wp2_with fail
  refine hK _ _ (fun _ _ => ha) ?_
  clear hK K
  refine mix_free (fun K hK => ?_)
  go_simp
  refine hK _ ?_
  clear hK K
  refine mix_free (fun K hK => ?_)
  go_simp
  refine hK _ ?_
  clear hK K
  refine mix_nil ?_
  go_wp2_with fail
  go_ret2
  exact ⟨rfl, hB⟩

set_option maxHeartbeats 1000000 in
theorem law_2 (x y z a : Nat) (w : World) (hx : x < 2 ^ 64) (hy : y < 2 ^ 64) (hz : z < 2 ^ 64) (ha : FnAt w a 52) :
    Calls Try.prog 56 #[.float .f64 x, .float .f64 y, .float .f64 z, .pointer (some ⟨a, 0, none⟩)] w fun e w' => e = .returned (.tuple #[.float .f64 (dob 4 x y), .float .f64 (dob 4 y x)]) ∧ Below w.heap.size w w' := by
  go_enter Try.func56, Try.ntmps56
  go_wp2_with fail
  refine region_mix [(0, .inl (some 0)), (1, .inl none), (2, .inl none), (4, .inl (some 0)), (5, .inl none), (6, .inl none), (3, .inr [0]), (7, .inr [0]), (8, .inl none), (9, .inl none)]
    (fun _ W => FnAt W a 52) (by kernel_rfl) (by kernel_rfl) (fun _ => ha.drewN 1) ?_
  simp only [pickK, List.filterMap_cons, List.filterMap_nil, List.getElem?_toArray, List.getElem?_cons_zero, List.getElem?_cons_succ, Option.map_some]
  have hB : Below w.heap.size w (w.drewN 1) := below_drewN' (Below.refl _ _) 1
  replace ha := ha.drewN 1
  generalize hw0 : w.drewN 1 = w0 at hB ha ⊢
  clear hw0
  refine mix_val (.func (.func 52) #[] #[]) (by rfl) (fun w' hw' => ?_) (fun K hK => ?_)
  · have c := hw'.cell
    go_simp
  go_simp
  refine hK _ ?_
  clear hK K
  refine mix_free (fun K hK => ?_)
  go_simp
  refine hK _ ?_
  clear hK K
  refine mix_free (fun K hK => ?_)
  go_simp
  refine hK _ ?_
  clear hK K
  refine mix_val (.func (.func 52) #[] #[]) (by rfl) (fun w' hw' => ?_) (fun K hK => ?_)
  · have c := hw'.cell
    go_simp
  go_simp
  refine hK _ ?_
  clear hK K
  refine mix_free (fun K hK => ?_)
  go_simp
  refine hK _ ?_
  clear hK K
  refine mix_free (fun K hK => ?_)
  go_simp
  refine hK _ ?_
  clear hK K
  refine mix_step (fun K hK => ?_) (fun _ _ => ha)
  go_wp2_with fail
  refine (fn_52 _ _ _ hx hy).mono ?_
  rintro e w1 ⟨rfl, hN⟩
  replace ha := ha.below hN
  replace hB := hB.trans (hN.mono hB.size)
  clear hN
  go_wp2_with fail
  refine hK _ _ (fun _ _ => ha) ?_
  clear hK K
  refine mix_step (fun K hK => ?_) (fun _ _ => ha)
  go_wp2_with fail
  refine (fn_52 _ _ _ hy hx).mono ?_
  rintro e w2 ⟨rfl, hN⟩
  replace ha := ha.below hN
  replace hB := hB.trans (hN.mono hB.size)
  clear hN
  go_wp2_with fail
  refine hK _ _ (fun _ _ => ha) ?_
  clear hK K
  refine mix_free (fun K hK => ?_)
  go_simp
  refine hK _ ?_
  clear hK K
  refine mix_free (fun K hK => ?_)
  go_simp
  refine hK _ ?_
  clear hK K
  refine mix_nil ?_
  go_wp2_with fail
  go_ret2
  exact ⟨rfl, hB⟩

set_option maxHeartbeats 1000000 in
theorem law_3 (x y z : Nat) (w : World) (hx : x < 2 ^ 64) (hy : y < 2 ^ 64) (hz : z < 2 ^ 64) :
    Calls Try.prog 57 #[.float .f64 x, .float .f64 y, .float .f64 z] w fun e w' => e = .returned (.tuple #[.float .f64 (dob 6 x y), .float .f64 (dob 6 y x)]) ∧ Below w.heap.size w w' := by
  go_enter Try.func57, Try.ntmps57
  have hB : Below w.heap.size w w := Below.refl _ _
  go_wp2_with fail
  refine (do_6 _ _ _ hx hy).mono ?_
  rintro e w1 ⟨rfl, hN⟩
  replace hB := hB.trans (hN.mono hB.size)
  clear hN
  go_wp2_with fail
  refine (do_6 _ _ _ hy hx).mono ?_
  rintro e w2 ⟨rfl, hN⟩
  replace hB := hB.trans (hN.mono hB.size)
  clear hN
  go_wp2_with fail
  go_ret2
  exact ⟨rfl, hB⟩

set_option maxHeartbeats 1000000 in
theorem law_4 (x y z : Nat) (w : World) (hx : x < 2 ^ 64) (hy : y < 2 ^ 64) (hz : z < 2 ^ 64) :
    Calls Try.prog 58 #[.float .f64 x, .float .f64 y, .float .f64 z] w fun e w' => e = .returned (.tuple #[.float .f64 (dob 7 x y), .float .f64 (dob 7 y x)]) ∧ Below w.heap.size w w' := by
  go_enter Try.func58, Try.ntmps58
  have hB : Below w.heap.size w w := Below.refl _ _
  go_wp2_with fail
  refine (do_7 _ _ _ hx hy).mono ?_
  rintro e w1 ⟨rfl, hN⟩
  replace hB := hB.trans (hN.mono hB.size)
  clear hN
  go_wp2_with fail
  refine (do_7 _ _ _ hy hx).mono ?_
  rintro e w2 ⟨rfl, hN⟩
  replace hB := hB.trans (hN.mono hB.size)
  clear hN
  go_wp2_with fail
  go_ret2
  exact ⟨rfl, hB⟩

set_option maxHeartbeats 1000000 in
theorem law_5 (x y z a : Nat) (w : World) (hx : x < 2 ^ 64) (hy : y < 2 ^ 64) (hz : z < 2 ^ 64) (ha : FnAt w a 52) :
    Calls Try.prog 59 #[.float .f64 x, .float .f64 y, .float .f64 z, .pointer (some ⟨a, 0, none⟩)] w fun e w' => e = .returned (.tuple #[.float .f64 (dob 4 x 4607182418800017408), .float .f64 x]) ∧ Below w.heap.size w w' := by
  go_enter Try.func59, Try.ntmps59
  have hB : Below w.heap.size w w := Below.refl _ _
  have ca := ha.cell
  go_wp2_with fail
  refine (fn_52 _ _ _ hx (by decide)).mono ?_
  rintro e w1 ⟨rfl, hN⟩
  replace ha := ha.below hN
  replace hB := hB.trans (hN.mono hB.size)
  clear hN
  go_wp2_with fail
  go_ret2
  exact ⟨rfl, hB⟩

set_option maxHeartbeats 1000000 in
theorem law_6 (x y z a : Nat) (w : World) (hx : x < 2 ^ 64) (hy : y < 2 ^ 64) (hz : z < 2 ^ 64) (ha : FnAt w a 53) :
    Calls Try.prog 60 #[.float .f64 x, .float .f64 y, .float .f64 z, .pointer (some ⟨a, 0, none⟩)] w fun e w' => e = .returned (.tuple #[.float .f64 (dob 5 x 4607182418800017408), .float .f64 x]) ∧ Below w.heap.size w w' := by
  go_enter Try.func60, Try.ntmps60
  have hB : Below w.heap.size w w := Below.refl _ _
  have ca := ha.cell
  go_wp2_with fail
  refine (fn_53 _ _ _ hx (by decide)).mono ?_
  rintro e w1 ⟨rfl, hN⟩
  replace ha := ha.below hN
  replace hB := hB.trans (hN.mono hB.size)
  clear hN
  go_wp2_with fail
  go_ret2
  exact ⟨rfl, hB⟩

set_option maxHeartbeats 1000000 in
theorem law_7 (x y z a : Nat) (w : World) (hx : x < 2 ^ 64) (hy : y < 2 ^ 64) (hz : z < 2 ^ 64) (ha : FnAt w a 51) :
    Calls Try.prog 61 #[.float .f64 x, .float .f64 y, .float .f64 z, .pointer (some ⟨a, 0, none⟩)] w fun e w' => e = .returned (.tuple #[.float .f64 (dob 3 x 0), .float .f64 x]) ∧ Below w.heap.size w w' := by
  go_enter Try.func61, Try.ntmps61
  have hB : Below w.heap.size w w := Below.refl _ _
  have ca := ha.cell
  go_wp2_with fail
  refine (fn_51 _ _ _ hx (by decide)).mono ?_
  rintro e w1 ⟨rfl, hN⟩
  replace ha := ha.below hN
  replace hB := hB.trans (hN.mono hB.size)
  clear hN
  go_wp2_with fail
  go_ret2
  exact ⟨rfl, hB⟩

set_option maxHeartbeats 1000000 in
theorem law_8 (x y z a : Nat) (w : World) (hx : x < 2 ^ 64) (hy : y < 2 ^ 64) (hz : z < 2 ^ 64) (ha : FnAt w a 50) :
    Calls Try.prog 62 #[.float .f64 x, .float .f64 y, .float .f64 z, .pointer (some ⟨a, 0, none⟩)] w fun e w' => e = .returned (.tuple #[.float .f64 (dob 2 x 9223372036854775808), .float .f64 x]) ∧ Below w.heap.size w w' := by
  go_enter Try.func62, Try.ntmps62
  go_wp2_with fail
  refine region_mix [(0, .inl (some 0)), (1, .inl none), (4, .inl none), (2, .inr [0]), (3, .inr [0]), (5, .inl none), (6, .inl none)]
    (fun _ W => FnAt W a 50) (by kernel_rfl) (by kernel_rfl) (fun _ => ha.drewN 1) ?_
  simp only [pickK, List.filterMap_cons, List.filterMap_nil, List.getElem?_toArray, List.getElem?_cons_zero, List.getElem?_cons_succ, Option.map_some]
  have hB : Below w.heap.size w (w.drewN 1) := below_drewN' (Below.refl _ _) 1
  replace ha := ha.drewN 1
  generalize hw0 : w.drewN 1 = w0 at hB ha ⊢
  clear hw0
  refine mix_val (.func (.func 50) #[] #[]) (by rfl) (fun w' hw' => ?_) (fun K hK => ?_)
  · have c := hw'.cell
    go_simp
  go_simp
  refine hK _ ?_
  clear hK K
  refine mix_free (fun K hK => ?_)
  go_simp
  refine hK _ ?_
  clear hK K
  refine mix_free (fun K hK => ?_)
  go_simp
  refine hK _ ?_
  clear hK K
  refine mix_step (fun K hK => ?_) (fun _ _ => ha)
  go_wp2_with fail
  refine (zero_any _).mono ?_
  rintro e _ ⟨rfl, rfl⟩
  go_wp2_with fail
  refine hK _ _ (fun _ _ => ha) ?_
  clear hK K
  refine mix_step (fun K hK => ?_) (fun _ _ => ha)
  go_wp2_with fail
  refine (fn_50 _ _ _ hx (by decide)).mono ?_
  rintro e w2 ⟨rfl, hN⟩
  replace ha := ha.below hN
  replace hB := hB.trans (hN.mono hB.size)
  clear hN
  go_wp2_with fail
  refine hK _ _ (fun _ _ => ha) ?_
  clear hK K
  refine mix_free (fun K hK => ?_)
  go_simp
  refine hK _ ?_
  clear hK K
  refine mix_free (fun K hK => ?_)
  go_simp
  refine hK _ ?_
  clear hK K
  refine mix_nil ?_
  go_wp2_with fail
  go_ret2
  exact ⟨rfl, hB⟩

set_option maxHeartbeats 1000000 in
theorem law_9 (x y z a : Nat) (w : World) (hx : x < 2 ^ 64) (hy : y < 2 ^ 64) (hz : z < 2 ^ 64) (ha : FnAt w a 54) :
    Calls Try.prog 63 #[.float .f64 x, .float .f64 y, .float .f64 z, .pointer (some ⟨a, 0, none⟩)] w fun e w' => e = .returned (.tuple #[.float .f64 (dob 1 (dob 1 x 0) 0), .float .f64 x]) ∧ Below w.heap.size w w' := by
  go_enter Try.func63, Try.ntmps63
  go_wp2_with fail
  refine region_mix [(0, .inl (some 0)), (1, .inl (some 0)), (2, .inl none), (5, .inl none), (3, .inr [0]), (4, .inr [0]), (6, .inl none), (7, .inl none)]
    (fun _ W => FnAt W a 54) (by kernel_rfl) (by kernel_rfl) (fun _ => ha.drewN 1) ?_
  simp only [pickK, List.filterMap_cons, List.filterMap_nil, List.getElem?_toArray, List.getElem?_cons_zero, List.getElem?_cons_succ, Option.map_some]
  have hB : Below w.heap.size w (w.drewN 1) := below_drewN' (Below.refl _ _) 1
  replace ha := ha.drewN 1
  generalize hw0 : w.drewN 1 = w0 at hB ha ⊢
  clear hw0
  refine mix_val (.func (.func 54) #[] #[]) (by rfl) (fun w' hw' => ?_) (fun K hK => ?_)
  · have c := hw'.cell
    go_simp
  go_simp
  refine hK _ ?_
  clear hK K
  refine mix_val (.func (.func 54) #[] #[]) (by rfl) (fun w' hw' => ?_) (fun K hK => ?_)
  · have c := hw'.cell
    go_simp
  go_simp
  refine hK _ ?_
  clear hK K
  refine mix_free (fun K hK => ?_)
  go_simp
  refine hK _ ?_
  clear hK K
  refine mix_free (fun K hK => ?_)
  go_simp
  refine hK _ ?_
  clear hK K
  refine mix_step (fun K hK => ?_) (fun _ _ => ha)
  go_wp2_with fail
  refine (fn_54 _ _ hx).mono ?_
  rintro e w1 ⟨rfl, hN⟩
  replace ha := ha.below hN
  replace hB := hB.trans (hN.mono hB.size)
  clear hN
  go_wp2_with fail
  refine hK _ _ (fun _ _ => ha) ?_
  clear hK K
  refine mix_step (fun K hK => ?_) (fun _ _ => ha)
  go_wp2_with fail
  refine (fn_54 _ _ (dob_lt 1 _ _ hx (by decide))).mono ?_
  rintro e w2 ⟨rfl, hN⟩
  replace ha := ha.below hN
  replace hB := hB.trans (hN.mono hB.size)
  clear hN
  go_wp2_with fail
  refine hK _ _ (fun _ _ => ha) ?_
  clear hK K
  refine mix_free (fun K hK => ?_)
  go_simp
  refine hK _ ?_
  clear hK K
  refine mix_free (fun K hK => ?_)
  go_simp
  refine hK _ ?_
  clear hK K
  refine mix_nil ?_
  go_wp2_with fail
  go_ret2
  exact ⟨rfl, hB⟩

set_option maxHeartbeats 1000000 in
theorem law_10 (x y z a b c : Nat) (w : World) (hx : x < 2 ^ 64) (hy : y < 2 ^ 64) (hz : z < 2 ^ 64) (ha : FnAt w a 51) (hb : FnAt w b 50) (hc : FnAt w c 54) :
    Calls Try.prog 64 #[.float .f64 x, .float .f64 y, .float .f64 z, .pointer (some ⟨a, 0, none⟩), .pointer (some ⟨b, 0, none⟩), .pointer (some ⟨c, 0, none⟩)] w fun e w' => e = .returned (.tuple #[.float .f64 (dob 3 x y), .float .f64 (dob 2 x (dob 1 y 0))]) ∧ Below w.heap.size w w' := by
  go_enter Try.func64, Try.ntmps64
  go_wp2_with fail
  refine region_mix [(0, .inl (some 0)), (1, .inl none), (2, .inl none), (4, .inl (some 0)), (5, .inl none), (6, .inl (some 0)), (7, .inl none), (3, .inr [0]), (8, .inr [0]), (9, .inr [0]), (10, .inl none), (11, .inl none)]
    (fun _ W => FnAt W a 51 ∧ FnAt W b 50 ∧ FnAt W c 54) (by kernel_rfl) (by kernel_rfl) (fun _ => ⟨ha.drewN 1, hb.drewN 1, hc.drewN 1⟩) ?_
  simp only [pickK, List.filterMap_cons, List.filterMap_nil, List.getElem?_toArray, List.getElem?_cons_zero, List.getElem?_cons_succ, Option.map_some]
  have hB : Below w.heap.size w (w.drewN 1) := below_drewN' (Below.refl _ _) 1
  replace ha := ha.drewN 1
  replace hb := hb.drewN 1
  replace hc := hc.drewN 1
  generalize hw0 : w.drewN 1 = w0 at hB ha hb hc ⊢
  clear hw0
  refine mix_val (.func (.func 51) #[] #[]) (by rfl) (fun w' hw' => ?_) (fun K hK => ?_)
  · have c := hw'.1.cell
    go_simp
  go_simp
  refine hK _ ?_
  clear hK K
  refine mix_free (fun K hK => ?_)
  go_simp
  refine hK _ ?_
  clear hK K
  refine mix_free (fun K hK => ?_)
  go_simp
  refine hK _ ?_
  clear hK K
  refine mix_val (.func (.func 50) #[] #[]) (by rfl) (fun w' hw' => ?_) (fun K hK => ?_)
  · have c := hw'.2.1.cell
    go_simp
  go_simp
  refine hK _ ?_
  clear hK K
  refine mix_free (fun K hK => ?_)
  go_simp
  refine hK _ ?_
  clear hK K
  refine mix_val (.func (.func 54) #[] #[]) (by rfl) (fun w' hw' => ?_) (fun K hK => ?_)
  · have c := hw'.2.2.cell
    go_simp
  go_simp
  refine hK _ ?_
  clear hK K
  refine mix_free (fun K hK => ?_)
  go_simp
  refine hK _ ?_
  clear hK K
  refine mix_step (fun K hK => ?_) (fun _ _ => ⟨ha, hb, hc⟩)
  go_wp2_with fail
  refine (fn_51 _ _ _ hx hy).mono ?_
  rintro e w1 ⟨rfl, hN⟩
  replace ha := ha.below hN
  replace hb := hb.below hN
  replace hc := hc.below hN
  replace hB := hB.trans (hN.mono hB.size)
  clear hN
  go_wp2_with fail
  refine hK _ _ (fun _ _ => ⟨ha, hb, hc⟩) ?_
  clear hK K
  refine mix_step (fun K hK => ?_) (fun _ _ => ⟨ha, hb, hc⟩)
  go_wp2_with fail
  refine (fn_54 _ _ hy).mono ?_
  rintro e w2 ⟨rfl, hN⟩
  replace ha := ha.below hN
  replace hb := hb.below hN
  replace hc := hc.below hN
  replace hB := hB.trans (hN.mono hB.size)
  clear hN
  go_wp2_with fail
  refine hK _ _ (fun _ _ => ⟨ha, hb, hc⟩) ?_
  clear hK K
  refine mix_step (fun K hK => ?_) (fun _ _ => ⟨ha, hb, hc⟩)
  go_wp2_with fail
  refine (fn_50 _ _ _ hx (dob_lt 1 _ _ hy (by decide))).mono ?_
  rintro e w3 ⟨rfl, hN⟩
  replace ha := ha.below hN
  replace hb := hb.below hN
  replace hc := hc.below hN
  replace hB := hB.trans (hN.mono hB.size)
  clear hN
  go_wp2_with fail
  refine hK _ _ (fun _ _ => ⟨ha, hb, hc⟩) ?_
  clear hK K
  refine mix_free (fun K hK => ?_)
  go_simp
  refine hK _ ?_
  clear hK K
  refine mix_free (fun K hK => ?_)
  go_simp
  refine hK _ ?_
  clear hK K
  refine mix_nil ?_
  go_wp2_with fail
  go_ret2
  exact ⟨rfl, hB⟩

set_option maxHeartbeats 1000000 in
theorem law_11 (x y z : Nat) (w : World) (hx : x < 2 ^ 64) (hy : y < 2 ^ 64) (hz : z < 2 ^ 64) :
    Calls Try.prog 65 #[.float .f64 x, .float .f64 y, .float .f64 z] w fun e w' => e = .returned (.tuple #[.float .f64 (dob 6 x x), .float .f64 x]) ∧ Below w.heap.size w w' := by
  go_enter Try.func65, Try.ntmps65
  have hB : Below w.heap.size w w := Below.refl _ _
  go_wp2_with fail
  refine (do_6 _ _ _ hx hx).mono ?_
  rintro e w1 ⟨rfl, hN⟩
  replace hB := hB.trans (hN.mono hB.size)
  clear hN
  go_wp2_with fail
  go_ret2
  exact ⟨rfl, hB⟩

set_option maxHeartbeats 1000000 in
theorem law_12 (x y z a b : Nat) (w : World) (hx : x < 2 ^ 64) (hy : y < 2 ^ 64) (hz : z < 2 ^ 64) (ha : FnAt w a 54) (hb : FnAt w b 51) :
    Calls Try.prog 66 #[.float .f64 x, .float .f64 y, .float .f64 z, .pointer (some ⟨a, 0, none⟩), .pointer (some ⟨b, 0, none⟩)] w fun e w' => e = .returned (.tuple #[.float .f64 (dob 1 (dob 3 x y) 0), .float .f64 (dob 3 y x)]) ∧ Below w.heap.size w w' := by
  go_enter Try.func66, Try.ntmps66
  go_wp2_with fail
  refine region_mix [(0, .inl (some 0)), (1, .inl (some 0)), (2, .inl none), (3, .inl none), (6, .inl (some 0)), (7, .inl none), (8, .inl none), (4, .inr [0]), (5, .inr [0]), (9, .inr [0]), (10, .inl none), (11, .inl none)]
    (fun _ W => FnAt W a 54 ∧ FnAt W b 51) (by kernel_rfl) (by kernel_rfl) (fun _ => ⟨ha.drewN 1, hb.drewN 1⟩) ?_
  simp only [pickK, List.filterMap_cons, List.filterMap_nil, List.getElem?_toArray, List.getElem?_cons_zero, List.getElem?_cons_succ, Option.map_some]
  have hB : Below w.heap.size w (w.drewN 1) := below_drewN' (Below.refl _ _) 1
  replace ha := ha.drewN 1
  replace hb := hb.drewN 1
  generalize hw0 : w.drewN 1 = w0 at hB ha hb ⊢
  clear hw0
  refine mix_val (.func (.func 54) #[] #[]) (by rfl) (fun w' hw' => ?_) (fun K hK => ?_)
  · have c := hw'.1.cell
    go_simp
  go_simp
  refine hK _ ?_
  clear hK K
  refine mix_val (.func (.func 51) #[] #[]) (by rfl) (fun w' hw' => ?_) (fun K hK => ?_)
  · have c := hw'.2.cell
    go_simp
  go_simp
  refine hK _ ?_
  clear hK K
  refine mix_free (fun K hK => ?_)
  go_simp
  refine hK _ ?_
  clear hK K
  refine mix_free (fun K hK => ?_)
  go_simp
  refine hK _ ?_
  clear hK K
  refine mix_val (.func (.func 51) #[] #[]) (by rfl) (fun w' hw' => ?_) (fun K hK => ?_)
  · have c := hw'.2.cell
    go_simp
  go_simp
  refine hK _ ?_
  clear hK K
  refine mix_free (fun K hK => ?_)
  go_simp
  refine hK _ ?_
  clear hK K
  refine mix_free (fun K hK => ?_)
  go_simp
  refine hK _ ?_
  clear hK K
  refine mix_step (fun K hK => ?_) (fun _ _ => ⟨ha, hb⟩)
  go_wp2_with fail
  refine (fn_51 _ _ _ hx hy).mono ?_
  rintro e w1 ⟨rfl, hN⟩
  replace ha := ha.below hN
  replace hb := hb.below hN
  replace hB := hB.trans (hN.mono hB.size)
  clear hN
  go_wp2_with fail
  refine hK _ _ (fun _ _ => ⟨ha, hb⟩) ?_
  clear hK K
  refine mix_step (fun K hK => ?_) (fun _ _ => ⟨ha, hb⟩)
  go_wp2_with fail
  refine (fn_54 _ _ (dob_lt 3 _ _ hx hy)).mono ?_
  rintro e w2 ⟨rfl, hN⟩
  replace ha := ha.below hN
  replace hb := hb.below hN
  replace hB := hB.trans (hN.mono hB.size)
  clear hN
  go_wp2_with fail
  refine hK _ _ (fun _ _ => ⟨ha, hb⟩) ?_
  clear hK K
  refine mix_step (fun K hK => ?_) (fun _ _ => ⟨ha, hb⟩)
  go_wp2_with fail
  refine (fn_51 _ _ _ hy hx).mono ?_
  rintro e w3 ⟨rfl, hN⟩
  replace ha := ha.below hN
  replace hb := hb.below hN
  replace hB := hB.trans (hN.mono hB.size)
  clear hN
  go_wp2_with fail
  refine hK _ _ (fun _ _ => ⟨ha, hb⟩) ?_
  clear hK K
  refine mix_free (fun K hK => ?_)
  go_simp
  refine hK _ ?_
  clear hK K
  refine mix_free (fun K hK => ?_)
  go_simp
  refine hK _ ?_
  clear hK K
  refine mix_nil ?_
  go_wp2_with fail
  go_ret2
  exact ⟨rfl, hB⟩

set_option maxHeartbeats 1000000 in
theorem law_13 (x y z a : Nat) (w : World) (hx : x < 2 ^ 64) (hy : y < 2 ^ 64) (hz : z < 2 ^ 64) (ha : FnAt w a 51) :
    Calls Try.prog 67 #[.float .f64 x, .float .f64 y, .float .f64 z, .pointer (some ⟨a, 0, none⟩)] w fun e w' => e = .returned (.tuple #[.float .f64 (dob 3 x x), .float .f64 0]) ∧ Below w.heap.size w w' := by
  go_enter Try.func67, Try.ntmps67
  have hB : Below w.heap.size w w := Below.refl _ _
  have ca := ha.cell
  go_wp2_with fail
  refine (fn_51 _ _ _ hx hx).mono ?_
  rintro e w1 ⟨rfl, hN⟩
  replace ha := ha.below hN
  replace hB := hB.trans (hN.mono hB.size)
  clear hN
  go_wp2_with fail
  go_ret2
  exact ⟨rfl, hB⟩

set_option maxHeartbeats 1000000 in
theorem law_14 (x y z a : Nat) (w : World) (hx : x < 2 ^ 64) (hy : y < 2 ^ 64) (hz : z < 2 ^ 64) (ha : FnAt w a 52) :
    Calls Try.prog 68 #[.float .f64 x, .float .f64 y, .float .f64 z, .pointer (some ⟨a, 0, none⟩)] w fun e w' => e = .returned (.tuple #[.float .f64 (dob 4 0 x), .float .f64 0]) ∧ Below w.heap.size w w' := by
  go_enter Try.func68, Try.ntmps68
  have hB : Below w.heap.size w w := Below.refl _ _
  have ca := ha.cell
  go_wp2_with fail
  refine (fn_52 _ _ _ (by decide) hx).mono ?_
  rintro e w1 ⟨rfl, hN⟩
  replace ha := ha.below hN
  replace hB := hB.trans (hN.mono hB.size)
  clear hN
  go_wp2_with fail
  go_ret2
  exact ⟨rfl, hB⟩

set_option maxHeartbeats 1000000 in
theorem law_15 (x y z a : Nat) (w : World) (hx : x < 2 ^ 64) (hy : y < 2 ^ 64) (hz : z < 2 ^ 64) (ha : FnAt w a 50) :
    Calls Try.prog 69 #[.float .f64 x, .float .f64 y, .float .f64 z, .pointer (some ⟨a, 0, none⟩)] w fun e w' => e = .returned (.tuple #[.float .f64 (dob 2 (dob 2 x y) z), .float .f64 (dob 2 x (dob 2 y z))]) ∧ Below w.heap.size w w' := by
  go_enter Try.func69, Try.ntmps69
  go_wp2_with fail
  refine region_mix [(0, .inl (some 0)), (1, .inl (some 0)), (2, .inl none), (3, .inl none), (5, .inl none), (7, .inl (some 0)), (8, .inl none), (9, .inl (some 0)), (10, .inl none), (11, .inl none), (4, .inr [0]), (6, .inr [0]), (12, .inr [0]), (13, .inr [0]), (14, .inl none), (15, .inl none)]
    (fun _ W => FnAt W a 50) (by kernel_rfl) (by kernel_rfl) (fun _ => ha.drewN 1) ?_
  simp only [pickK, List.filterMap_cons, List.filterMap_nil, List.getElem?_toArray, List.getElem?_cons_zero, List.getElem?_cons_succ, Option.map_some]
  have hB : Below w.heap.size w (w.drewN 1) := below_drewN' (Below.refl _ _) 1
  replace ha := ha.drewN 1
  generalize hw0 : w.drewN 1 = w0 at hB ha ⊢
  clear hw0
  refine mix_val (.func (.func 50) #[] #[]) (by rfl) (fun w' hw' => ?_) (fun K hK => ?_)
  · have c := hw'.cell
    go_simp
  go_simp
  refine hK _ ?_
  clear hK K
  refine mix_val (.func (.func 50) #[] #[]) (by rfl) (fun w' hw' => ?_) (fun K hK => ?_)
  · have c := hw'.cell
    go_simp
  go_simp
  refine hK _ ?_
  clear hK K
  refine mix_free (fun K hK => ?_)
  go_simp
  refine hK _ ?_
  clear hK K
  refine mix_free (fun K hK => ?_)
  go_simp
  refine hK _ ?_
  clear hK K
  refine mix_free (fun K hK => ?_)
  go_simp
  refine hK _ ?_
  clear hK K
  refine mix_val (.func (.func 50) #[] #[]) (by rfl) (fun w' hw' => ?_) (fun K hK => ?_)
  · have c := hw'.cell
    go_simp
  go_simp
  refine hK _ ?_
  clear hK K
  refine mix_free (fun K hK => ?_)
  go_simp
  refine hK _ ?_
  clear hK K
  refine mix_val (.func (.func 50) #[] #[]) (by rfl) (fun w' hw' => ?_) (fun K hK => ?_)
  · have c := hw'.cell
    go_simp
  go_simp
  refine hK _ ?_
  clear hK K
  refine mix_free (fun K hK => ?_)
  go_simp
  refine hK _ ?_
  clear hK K
  refine mix_free (fun K hK => ?_)
  go_simp
  refine hK _ ?_
  clear hK K
  refine mix_step (fun K hK => ?_) (fun _ _ => ha)
  go_wp2_with fail
  refine (fn_50 _ _ _ hx hy).mono ?_
  rintro e w1 ⟨rfl, hN⟩
  replace ha := ha.below hN
  replace hB := hB.trans (hN.mono hB.size)
  clear hN
  go_wp2_with fail
  refine hK _ _ (fun _ _ => ha) ?_
  clear hK K
  refine mix_step (fun K hK => ?_) (fun _ _ => ha)
  go_wp2_with fail
  refine (fn_50 _ _ _ (dob_lt 2 _ _ hx hy) hz).mono ?_
  rintro e w2 ⟨rfl, hN⟩
  replace ha := ha.below hN
  replace hB := hB.trans (hN.mono hB.size)
  clear hN
  go_wp2_with fail
  refine hK _ _ (fun _ _ => ha) ?_
  clear hK K
  refine mix_step (fun K hK => ?_) (fun _ _ => ha)
  go_wp2_with fail
  refine (fn_50 _ _ _ hy hz).mono ?_
  rintro e w3 ⟨rfl, hN⟩
  replace ha := ha.below hN
  replace hB := hB.trans (hN.mono hB.size)
  clear hN
  go_wp2_with fail
  refine hK _ _ (fun _ _ => ha) ?_
  clear hK K
  refine mix_step (fun K hK => ?_) (fun _ _ => ha)
  go_wp2_with fail
  refine (fn_50 _ _ _ hx (dob_lt 2 _ _ hy hz)).mono ?_
  rintro e w4 ⟨rfl, hN⟩
  replace ha := ha.below hN
  replace hB := hB.trans (hN.mono hB.size)
  clear hN
  go_wp2_with fail
  refine hK _ _ (fun _ _ => ha) ?_
  clear hK K
  refine mix_free (fun K hK => ?_)
  go_simp
  refine hK _ ?_
  clear hK K
  refine mix_free (fun K hK => ?_)
  go_simp
  refine hK _ ?_
  clear hK K
  refine mix_nil ?_
  go_wp2_with fail
  go_ret2
  exact ⟨rfl, hB⟩

set_option maxHeartbeats 1000000 in
theorem law_16 (x y z a : Nat) (w : World) (hx : x < 2 ^ 64) (hy : y < 2 ^ 64) (hz : z < 2 ^ 64) (ha : FnAt w a 52) :
    Calls Try.prog 70 #[.float .f64 x, .float .f64 y, .float .f64 z, .pointer (some ⟨a, 0, none⟩)] w fun e w' => e = .returned (.tuple #[.float .f64 (dob 4 (dob 4 x y) z), .float .f64 (dob 4 x (dob 4 y z))]) ∧ Below w.heap.size w w' := by
  go_enter Try.func70, Try.ntmps70
  go_wp2_with fail
  refine region_mix [(0, .inl (some 0)), (1, .inl (some 0)), (2, .inl none), (3, .inl none), (5, .inl none), (7, .inl (some 0)), (8, .inl none), (9, .inl (some 0)), (10, .inl none), (11, .inl none), (4, .inr [0]), (6, .inr [0]), (12, .inr [0]), (13, .inr [0]), (14, .inl none), (15, .inl none)]
    (fun _ W => FnAt W a 52) (by kernel_rfl) (by kernel_rfl) (fun _ => ha.drewN 1) ?_
  simp only [pickK, List.filterMap_cons, List.filterMap_nil, List.getElem?_toArray, List.getElem?_cons_zero, List.getElem?_cons_succ, Option.map_some]
  have hB : Below w.heap.size w (w.drewN 1) := below_drewN' (Below.refl _ _) 1
  replace ha := ha.drewN 1
  generalize hw0 : w.drewN 1 = w0 at hB ha ⊢
  clear hw0
  refine mix_val (.func (.func 52) #[] #[]) (by rfl) (fun w' hw' => ?_) (fun K hK => ?_)
  · have c := hw'.cell
    go_simp
  go_simp
  refine hK _ ?_
  clear hK K
  refine mix_val (.func (.func 52) #[] #[]) (by rfl) (fun w' hw' => ?_) (fun K hK => ?_)
  · have c := hw'.cell
    go_simp
  go_simp
  refine hK _ ?_
  clear hK K
  refine mix_free (fun K hK => ?_)
  go_simp
  refine hK _ ?_
  clear hK K
  refine mix_free (fun K hK => ?_)
  go_simp
  refine hK _ ?_
  clear hK K
  refine mix_free (fun K hK => ?_)
  go_simp
  refine hK _ ?_
  clear hK K
  refine mix_val (.func (.func 52) #[] #[]) (by rfl) (fun w' hw' => ?_) (fun K hK => ?_)
  · have c := hw'.cell
    go_simp
  go_simp
  refine hK _ ?_
  clear hK K
  refine mix_free (fun K hK => ?_)
  go_simp
  refine hK _ ?_
  clear hK K
  refine mix_val (.func (.func 52) #[] #[]) (by rfl) (fun w' hw' => ?_) (fun K hK => ?_)
  · have c := hw'.cell
    go_simp
  go_simp
  refine hK _ ?_
  clear hK K
  refine mix_free (fun K hK => ?_)
  go_simp
  refine hK _ ?_
  clear hK K
  refine mix_free (fun K hK => ?_)
  go_simp
  refine hK _ ?_
  clear hK K
  refine mix_step (fun K hK => ?_) (fun _ _ => ha)
  go_wp2_with fail
  refine (fn_52 _ _ _ hx hy).mono ?_
  rintro e w1 ⟨rfl, hN⟩
  replace ha := ha.below hN
  replace hB := hB.trans (hN.mono hB.size)
  clear hN
  go_wp2_with fail
  refine hK _ _ (fun _ _ => ha) ?_
  clear hK K
  refine mix_step (fun K hK => ?_) (fun _ _ => ha)
  go_wp2_with fail
  refine (fn_52 _ _ _ (dob_lt 4 _ _ hx hy) hz).mono ?_
  rintro e w2 ⟨rfl, hN⟩
  replace ha := ha.below hN
  replace hB := hB.trans (hN.mono hB.size)
  clear hN
  go_wp2_with fail
  refine hK _ _ (fun _ _ => ha) ?_
  clear hK K
  refine mix_step (fun K hK => ?_) (fun _ _ => ha)
  go_wp2_with fail
  refine (fn_52 _ _ _ hy hz).mono ?_
  rintro e w3 ⟨rfl, hN⟩
  replace ha := ha.below hN
  replace hB := hB.trans (hN.mono hB.size)
  clear hN
  go_wp2_with fail
  refine hK _ _ (fun _ _ => ha) ?_
  clear hK K
  refine mix_step (fun K hK => ?_) (fun _ _ => ha)
  go_wp2_with fail
  refine (fn_52 _ _ _ hx (dob_lt 4 _ _ hy hz)).mono ?_
  rintro e w4 ⟨rfl, hN⟩
  replace ha := ha.below hN
  replace hB := hB.trans (hN.mono hB.size)
  clear hN
  go_wp2_with fail
  refine hK _ _ (fun _ _ => ha) ?_
  clear hK K
  refine mix_free (fun K hK => ?_)
  go_simp
  refine hK _ ?_
  clear hK K
  refine mix_free (fun K hK => ?_)
  go_simp
  refine hK _ ?_
  clear hK K
  refine mix_nil ?_
  go_wp2_with fail
  go_ret2
  exact ⟨rfl, hB⟩

set_option maxHeartbeats 1000000 in
theorem law_17 (x y z a b : Nat) (w : World) (hx : x < 2 ^ 64) (hy : y < 2 ^ 64) (hz : z < 2 ^ 64) (ha : FnAt w a 52) (hb : FnAt w b 50) :
    Calls Try.prog 71 #[.float .f64 x, .float .f64 y, .float .f64 z, .pointer (some ⟨a, 0, none⟩), .pointer (some ⟨b, 0, none⟩)] w fun e w' => e = .returned (.tuple #[.float .f64 (dob 4 x (dob 2 y z)), .float .f64 (dob 2 (dob 4 x y) (dob 4 x z))]) ∧ Below w.heap.size w w' := by
  go_enter Try.func71, Try.ntmps71
  go_wp2_with fail
  refine region_mix [(0, .inl (some 0)), (1, .inl none), (2, .inl (some 0)), (3, .inl none), (4, .inl none), (7, .inl (some 0)), (8, .inl (some 0)), (9, .inl none), (10, .inl none), (12, .inl (some 0)), (13, .inl none), (14, .inl none), (5, .inr [0]), (6, .inr [0]), (11, .inr [0]), (15, .inr [0]), (16, .inr [0]), (17, .inl none), (18, .inl none)]
    (fun _ W => FnAt W a 52 ∧ FnAt W b 50) (by kernel_rfl) (by kernel_rfl) (fun _ => ⟨ha.drewN 1, hb.drewN 1⟩) ?_
  simp only [pickK, List.filterMap_cons, List.filterMap_nil, List.getElem?_toArray, List.getElem?_cons_zero, List.getElem?_cons_succ, Option.map_some]
  have hB : Below w.heap.size w (w.drewN 1) := below_drewN' (Below.refl _ _) 1
  replace ha := ha.drewN 1
  replace hb := hb.drewN 1
  generalize hw0 : w.drewN 1 = w0 at hB ha hb ⊢
  clear hw0
  refine mix_val (.func (.func 52) #[] #[]) (by rfl) (fun w' hw' => ?_) (fun K hK => ?_)
  · have c := hw'.1.cell
    go_simp
  go_simp
  refine hK _ ?_
  clear hK K
  refine mix_free (fun K hK => ?_)
  go_simp
  refine hK _ ?_
  clear hK K
  refine mix_val (.func (.func 50) #[] #[]) (by rfl) (fun w' hw' => ?_) (fun K hK => ?_)
  · have c := hw'.2.cell
    go_simp
  go_simp
  refine hK _ ?_
  clear hK K
  refine mix_free (fun K hK => ?_)
  go_simp
  refine hK _ ?_
  clear hK K
  refine mix_free (fun K hK => ?_)
  go_simp
  refine hK _ ?_
  clear hK K
  refine mix_val (.func (.func 50) #[] #[]) (by rfl) (fun w' hw' => ?_) (fun K hK => ?_)
  · have c := hw'.2.cell
    go_simp
  go_simp
  refine hK _ ?_
  clear hK K
  refine mix_val (.func (.func 52) #[] #[]) (by rfl) (fun w' hw' => ?_) (fun K hK => ?_)
  · have c := hw'.1.cell
    go_simp
  go_simp
  refine hK _ ?_
  clear hK K
  refine mix_free (fun K hK => ?_)
  go_simp
  refine hK _ ?_
  clear hK K
  refine mix_free (fun K hK => ?_)
  go_simp
  refine hK _ ?_
  clear hK K
  refine mix_val (.func (.func 52) #[] #[]) (by rfl) (fun w' hw' => ?_) (fun K hK => ?_)
  · have c := hw'.1.cell
    go_simp
  go_simp
  refine hK _ ?_
  clear hK K
  refine mix_free (fun K hK => ?_)
  go_simp
  refine hK _ ?_
  clear hK K
  refine mix_free (fun K hK => ?_)
  go_simp
  refine hK _ ?_
  clear hK K
  refine mix_step (fun K hK => ?_) (fun _ _ => ⟨ha, hb⟩)
  go_wp2_with fail
  refine (fn_50 _ _ _ hy hz).mono ?_
  rintro e w1 ⟨rfl, hN⟩
  replace ha := ha.below hN
  replace hb := hb.below hN
  replace hB := hB.trans (hN.mono hB.size)
  clear hN
  go_wp2_with fail
  refine hK _ _ (fun _ _ => ⟨ha, hb⟩) ?_
  clear hK K
  refine mix_step (fun K hK => ?_) (fun _ _ => ⟨ha, hb⟩)
  go_wp2_with fail
  refine (fn_52 _ _ _ hx (dob_lt 2 _ _ hy hz)).mono ?_
  rintro e w2 ⟨rfl, hN⟩
  replace ha := ha.below hN
  replace hb := hb.below hN
  replace hB := hB.trans (hN.mono hB.size)
  clear hN
  go_wp2_with fail
  refine hK _ _ (fun _ _ => ⟨ha, hb⟩) ?_
  clear hK K
  refine mix_step (fun K hK => ?_) (fun _ _ => ⟨ha, hb⟩)
  go_wp2_with fail
  refine (fn_52 _ _ _ hx hy).mono ?_
  rintro e w3 ⟨rfl, hN⟩
  replace ha := ha.below hN
  replace hb := hb.below hN
  replace hB := hB.trans (hN.mono hB.size)
  clear hN
  go_wp2_with fail
  refine hK _ _ (fun _ _ => ⟨ha, hb⟩) ?_
  clear hK K
  refine mix_step (fun K hK => ?_) (fun _ _ => ⟨ha, hb⟩)
  go_wp2_with fail
  refine (fn_52 _ _ _ hx hz).mono ?_
  rintro e w4 ⟨rfl, hN⟩
  replace ha := ha.below hN
  replace hb := hb.below hN
  replace hB := hB.trans (hN.mono hB.size)
  clear hN
  go_wp2_with fail
  refine hK _ _ (fun _ _ => ⟨ha, hb⟩) ?_
  clear hK K
  refine mix_step (fun K hK => ?_) (fun _ _ => ⟨ha, hb⟩)
  go_wp2_with fail
  refine (fn_50 _ _ _ (dob_lt 4 _ _ hx hy) (dob_lt 4 _ _ hx hz)).mono ?_
  rintro e w5 ⟨rfl, hN⟩
  replace ha := ha.below hN
  replace hb := hb.below hN
  replace hB := hB.trans (hN.mono hB.size)
  clear hN
  go_wp2_with fail
  refine hK _ _ (fun _ _ => ⟨ha, hb⟩) ?_
  clear hK K
  refine mix_free (fun K hK => ?_)
  go_simp
  refine hK _ ?_
  clear hK K
  refine mix_free (fun K hK => ?_)
  go_simp
  refine hK _ ?_
  clear hK K
  refine mix_nil ?_
  go_wp2_with fail
  go_ret2
  exact ⟨rfl, hB⟩

set_option maxHeartbeats 1000000 in
theorem law_18 (x y z a b : Nat) (w : World) (hx : x < 2 ^ 64) (hy : y < 2 ^ 64) (hz : z < 2 ^ 64) (ha : FnAt w a 51) (hb : FnAt w b 50) :
    Calls Try.prog 72 #[.float .f64 x, .float .f64 y, .float .f64 z, .pointer (some ⟨a, 0, none⟩), .pointer (some ⟨b, 0, none⟩)] w fun e w' => e = .returned (.tuple #[.float .f64 (dob 3 (dob 2 x y) y), .float .f64 x]) ∧ Below w.heap.size w w' := by
  go_enter Try.func72, Try.ntmps72
  go_wp2_with fail
  refine region_mix [(0, .inl (some 0)), (1, .inl (some 0)), (2, .inl none), (3, .inl none), (5, .inl none), (7, .inl none), (4, .inr [0]), (6, .inr [0]), (8, .inl none), (9, .inl none)]
    (fun _ W => FnAt W a 51 ∧ FnAt W b 50) (by kernel_rfl) (by kernel_rfl) (fun _ => ⟨ha.drewN 1, hb.drewN 1⟩) ?_
  simp only [pickK, List.filterMap_cons, List.filterMap_nil, List.getElem?_toArray, List.getElem?_cons_zero, List.getElem?_cons_succ, Option.map_some]
  have hB : Below w.heap.size w (w.drewN 1) := below_drewN' (Below.refl _ _) 1
  replace ha := ha.drewN 1
  replace hb := hb.drewN 1
  generalize hw0 : w.drewN 1 = w0 at hB ha hb ⊢
  clear hw0
  refine mix_val (.func (.func 51) #[] #[]) (by rfl) (fun w' hw' => ?_) (fun K hK => ?_)
  · have c := hw'.1.cell
    go_simp
  go_simp
  refine hK _ ?_
  clear hK K
  refine mix_val (.func (.func 50) #[] #[]) (by rfl) (fun w' hw' => ?_) (fun K hK => ?_)
  · have c := hw'.2.cell
    go_simp
  go_simp
  refine hK _ ?_
  clear hK K
  refine mix_free (fun K hK => ?_)
  go_simp
  refine hK _ ?_
  clear hK K
  refine mix_free (fun K hK => ?_)
  go_simp
  refine hK _ ?_
  clear hK K
  refine mix_free (fun K hK => ?_)
  go_simp
  refine hK _ ?_
  clear hK K
  refine mix_free (fun K hK => ?_)
  go_simp
  refine hK _ ?_
  clear hK K
  refine mix_step (fun K hK => ?_) (fun _ _ => ⟨ha, hb⟩)
  go_wp2_with fail
  refine (fn_50 _ _ _ hx hy).mono ?_
  rintro e w1 ⟨rfl, hN⟩
  replace ha := ha.below hN
  replace hb := hb.below hN
  replace hB := hB.trans (hN.mono hB.size)
  clear hN
  go_wp2_with fail
  refine hK _ _ (fun _ _ => ⟨ha, hb⟩) ?_
  clear hK K
  refine mix_step (fun K hK => ?_) (fun _ _ => ⟨ha, hb⟩)
  go_wp2_with fail
  refine (fn_51 _ _ _ (dob_lt 2 _ _ hx hy) hy).mono ?_
  rintro e w2 ⟨rfl, hN⟩
  replace ha := ha.below hN
  replace hb := hb.below hN
  replace hB := hB.trans (hN.mono hB.size)
  clear hN
  go_wp2_with fail
  refine hK _ _ (fun _ _ => ⟨ha, hb⟩) ?_
  clear hK K
  refine mix_free (fun K hK => ?_)
  go_simp
  refine hK _ ?_
  clear hK K
  refine mix_free (fun K hK => ?_)
  go_simp
  refine hK _ ?_
  clear hK K
  refine mix_nil ?_
  go_wp2_with fail
  go_ret2
  exact ⟨rfl, hB⟩

set_option maxHeartbeats 1000000 in
theorem law_19 (x y z a : Nat) (w : World) (hx : x < 2 ^ 64) (hy : y < 2 ^ 64) (hz : z < 2 ^ 64) (ha : FnAt w a 53) :
    Calls Try.prog 73 #[.float .f64 x, .float .f64 y, .float .f64 z, .pointer (some ⟨a, 0, none⟩)] w fun e w' => e = .returned (.tuple #[.float .f64 (dob 5 x x), .float .f64 4607182418800017408]) ∧ Below w.heap.size w w' := by
  go_enter Try.func73, Try.ntmps73
  have hB : Below w.heap.size w w := Below.refl _ _
  have ca := ha.cell
  go_wp2_with fail
  refine (fn_53 _ _ _ hx hx).mono ?_
  rintro e w1 ⟨rfl, hN⟩
  replace ha := ha.below hN
  replace hB := hB.trans (hN.mono hB.size)
  clear hN
  go_wp2_with fail
  go_ret2
  exact ⟨rfl, hB⟩

set_option maxHeartbeats 1000000 in
theorem law_20 (x y z a : Nat) (w : World) (hx : x < 2 ^ 64) (hy : y < 2 ^ 64) (hz : z < 2 ^ 64) (ha : FnAt w a 50) :
    Calls Try.prog 74 #[.float .f64 x, .float .f64 y, .float .f64 z, .pointer (some ⟨a, 0, none⟩)] w fun e w' => e = .returned (.tuple #[.float .f64 (dob 2 x 0), .float .f64 x]) ∧ Below w.heap.size w w' := by
  go_enter Try.func74, Try.ntmps74
  have hB : Below w.heap.size w w := Below.refl _ _
  have ca := ha.cell
  go_wp2_with fail
  refine (fn_50 _ _ _ hx (by decide)).mono ?_
  rintro e w1 ⟨rfl, hN⟩
  replace ha := ha.below hN
  replace hB := hB.trans (hN.mono hB.size)
  clear hN
  go_wp2_with fail
  go_ret2
  exact ⟨rfl, hB⟩

set_option maxHeartbeats 1000000 in
theorem law_21 (x y z a b : Nat) (w : World) (hx : x < 2 ^ 64) (hy : y < 2 ^ 64) (hz : z < 2 ^ 64) (ha : FnAt w a 53) (hb : FnAt w b 52) :
    Calls Try.prog 75 #[.float .f64 x, .float .f64 y, .float .f64 z, .pointer (some ⟨a, 0, none⟩), .pointer (some ⟨b, 0, none⟩)] w fun e w' => e = .returned (.tuple #[.float .f64 (dob 5 (dob 4 x y) y), .float .f64 x]) ∧ Below w.heap.size w w' := by
  go_enter Try.func75, Try.ntmps75
  go_wp2_with fail
  refine region_mix [(0, .inl (some 0)), (1, .inl (some 0)), (2, .inl none), (3, .inl none), (5, .inl none), (7, .inl none), (4, .inr [0]), (6, .inr [0]), (8, .inl none), (9, .inl none)]
    (fun _ W => FnAt W a 53 ∧ FnAt W b 52) (by kernel_rfl) (by kernel_rfl) (fun _ => ⟨ha.drewN 1, hb.drewN 1⟩) ?_
  simp only [pickK, List.filterMap_cons, List.filterMap_nil, List.getElem?_toArray, List.getElem?_cons_zero, List.getElem?_cons_succ, Option.map_some]
  have hB : Below w.heap.size w (w.drewN 1) := below_drewN' (Below.refl _ _) 1
  replace ha := ha.drewN 1
  replace hb := hb.drewN 1
  generalize hw0 : w.drewN 1 = w0 at hB ha hb ⊢
  clear hw0
  refine mix_val (.func (.func 53) #[] #[]) (by rfl) (fun w' hw' => ?_) (fun K hK => ?_)
  · have c := hw'.1.cell
    go_simp
  go_simp
  refine hK _ ?_
  clear hK K
  refine mix_val (.func (.func 52) #[] #[]) (by rfl) (fun w' hw' => ?_) (fun K hK => ?_)
  · have c := hw'.2.cell
    go_simp
  go_simp
  refine hK _ ?_
  clear hK K
  refine mix_free (fun K hK => ?_)
  go_simp
  refine hK _ ?_
  clear hK K
  refine mix_free (fun K hK => ?_)
  go_simp
  refine hK _ ?_
  clear hK K
  refine mix_free (fun K hK => ?_)
  go_simp
  refine hK _ ?_
  clear hK K
  refine mix_free (fun K hK => ?_)
  go_simp
  refine hK _ ?_
  clear hK K
  refine mix_step (fun K hK => ?_) (fun _ _ => ⟨ha, hb⟩)
  go_wp2_with fail
  refine (fn_52 _ _ _ hx hy).mono ?_
  rintro e w1 ⟨rfl, hN⟩
  replace ha := ha.below hN
  replace hb := hb.below hN
  replace hB := hB.trans (hN.mono hB.size)
  clear hN
  go_wp2_with fail
  refine hK _ _ (fun _ _ => ⟨ha, hb⟩) ?_
  clear hK K
  refine mix_step (fun K hK => ?_) (fun _ _ => ⟨ha, hb⟩)
  go_wp2_with fail
  refine (fn_53 _ _ _ (dob_lt 4 _ _ hx hy) hy).mono ?_
  rintro e w2 ⟨rfl, hN⟩
  replace ha := ha.below hN
  replace hb := hb.below hN
  replace hB := hB.trans (hN.mono hB.size)
  clear hN
  go_wp2_with fail
  refine hK _ _ (fun _ _ => ⟨ha, hb⟩) ?_
  clear hK K
  refine mix_free (fun K hK => ?_)
  go_simp
  refine hK _ ?_
  clear hK K
  refine mix_free (fun K hK => ?_)
  go_simp
  refine hK _ ?_
  clear hK K
  refine mix_nil ?_
  go_wp2_with fail
  go_ret2
  exact ⟨rfl, hB⟩

set_option maxHeartbeats 1000000 in
theorem law_22 (x y z a : Nat) (w : World) (hx : x < 2 ^ 64) (hy : y < 2 ^ 64) (hz : z < 2 ^ 64) (ha : FlAt w a) :
    Calls Try.prog 76 #[.float .f64 x, .float .f64 y, .float .f64 z, .pointer (some ⟨a, 0, none⟩)] w fun e w' => e = .returned (.tuple #[.float .f64 (dob 6 x 9218868437227405312), .float .f64 x]) ∧ Below w.heap.size w w' := by
  go_enter Try.func76, Try.ntmps76
  have hB : Below w.heap.size w w := Below.refl _ _
  have ca := ha.cell
  go_wp2_with fail
  refine (do_6 _ _ _ hx (by decide)).mono ?_
  rintro e w1 ⟨rfl, hN⟩
  replace ha := ha.below hN
  replace hB := hB.trans (hN.mono hB.size)
  clear hN
  go_wp2_with fail
  go_ret2
  exact ⟨rfl, hB⟩

set_option maxHeartbeats 1000000 in
theorem law_23 (x y z a b : Nat) (w : World) (hx : x < 2 ^ 64) (hy : y < 2 ^ 64) (hz : z < 2 ^ 64) (ha : FnAt w a 52) (hb : FnAt w b 54) :
    Calls Try.prog 77 #[.float .f64 x, .float .f64 y, .float .f64 z, .pointer (some ⟨a, 0, none⟩), .pointer (some ⟨b, 0, none⟩)] w fun e w' => e = .returned (.tuple #[.float .f64 (dob 4 x 13830554455654793216), .float .f64 (dob 1 x 0)]) ∧ Below w.heap.size w w' := by
  go_enter Try.func77, Try.ntmps77
  go_wp2_with fail
  refine region_mix [(0, .inl (some 0)), (1, .inl none), (3, .inl (some 0)), (4, .inl none), (2, .inr [0]), (5, .inr [0]), (6, .inl none), (7, .inl none)]
    (fun _ W => FnAt W a 52 ∧ FnAt W b 54) (by kernel_rfl) (by kernel_rfl) (fun _ => ⟨ha.drewN 1, hb.drewN 1⟩) ?_
  simp only [pickK, List.filterMap_cons, List.filterMap_nil, List.getElem?_toArray, List.getElem?_cons_zero, List.getElem?_cons_succ, Option.map_some]
  have hB : Below w.heap.size w (w.drewN 1) := below_drewN' (Below.refl _ _) 1
  replace ha := ha.drewN 1
  replace hb := hb.drewN 1
  generalize hw0 : w.drewN 1 = w0 at hB ha hb ⊢
  clear hw0
  refine mix_val (.func (.func 52) #[] #[]) (by rfl) (fun w' hw' => ?_) (fun K hK => ?_)
  · have c := hw'.1.cell
    go_simp
  go_simp
  refine hK _ ?_
  clear hK K
  refine mix_free (fun K hK => ?_)
  go_simp
  refine hK _ ?_
  clear hK K
  refine mix_val (.func (.func 54) #[] #[]) (by rfl) (fun w' hw' => ?_) (fun K hK => ?_)
  · have c := hw'.2.cell
    go_simp
  go_simp
  refine hK _ ?_
  clear hK K
  refine mix_free (fun K hK => ?_)
  go_simp
  refine hK _ ?_
  clear hK K
  refine mix_step (fun K hK => ?_) (fun _ _ => ⟨ha, hb⟩)
  go_wp2_with fail
  refine (fn_52 _ _ _ hx (by decide)).mono ?_
  rintro e w1 ⟨rfl, hN⟩
  replace ha := ha.below hN
  replace hb := hb.below hN
  replace hB := hB.trans (hN.mono hB.size)
  clear hN
  go_wp2_with fail
  refine hK _ _ (fun _ _ => ⟨ha, hb⟩) ?_
  clear hK K
  refine mix_step (fun K hK => ?_) (fun _ _ => ⟨ha, hb⟩)
  go_wp2_with fail
  refine (fn_54 _ _ hx).mono ?_
  rintro e w2 ⟨rfl, hN⟩
  replace ha := ha.below hN
  replace hb := hb.below hN
  replace hB := hB.trans (hN.mono hB.size)
  clear hN
  go_wp2_with fail
  refine hK _ _ (fun _ _ => ⟨ha, hb⟩) ?_
  clear hK K
  refine mix_free (fun K hK => ?_)
  go_simp
  refine hK _ ?_
  clear hK K
  refine mix_free (fun K hK => ?_)
  go_simp
  refine hK _ ?_
  clear hK K
  refine mix_nil ?_
  go_wp2_with fail
  go_ret2
  exact ⟨rfl, hB⟩

set_option maxHeartbeats 1000000 in
theorem law_24 (x y z a b : Nat) (w : World) (hx : x < 2 ^ 64) (hy : y < 2 ^ 64) (hz : z < 2 ^ 64) (ha : FnAt w a 53) (hb : FnAt w b 52) :
    Calls Try.prog 78 #[.float .f64 x, .float .f64 y, .float .f64 z, .pointer (some ⟨a, 0, none⟩), .pointer (some ⟨b, 0, none⟩)] w fun e w' => e = .returned (.tuple #[.float .f64 (dob 5 x y), .float .f64 (dob 4 x (dob 5 4607182418800017408 y))]) ∧ Below w.heap.size w w' := by
  go_enter Try.func78, Try.ntmps78
  go_wp2_with fail
  refine region_mix [(0, .inl (some 0)), (1, .inl none), (2, .inl none), (4, .inl (some 0)), (5, .inl none), (6, .inl (some 0)), (7, .inl none), (3, .inr [0]), (8, .inr [0]), (9, .inr [0]), (10, .inl none), (11, .inl none)]
    (fun _ W => FnAt W a 53 ∧ FnAt W b 52) (by kernel_rfl) (by kernel_rfl) (fun _ => ⟨ha.drewN 1, hb.drewN 1⟩) ?_
  simp only [pickK, List.filterMap_cons, List.filterMap_nil, List.getElem?_toArray, List.getElem?_cons_zero, List.getElem?_cons_succ, Option.map_some]
  have hB : Below w.heap.size w (w.drewN 1) := below_drewN' (Below.refl _ _) 1
  replace ha := ha.drewN 1
  replace hb := hb.drewN 1
  generalize hw0 : w.drewN 1 = w0 at hB ha hb ⊢
  clear hw0
  refine mix_val (.func (.func 53) #[] #[]) (by rfl) (fun w' hw' => ?_) (fun K hK => ?_)
  · have c := hw'.1.cell
    go_simp
  go_simp
  refine hK _ ?_
  clear hK K
  refine mix_free (fun K hK => ?_)
  go_simp
  refine hK _ ?_
  clear hK K
  refine mix_free (fun K hK => ?_)
  go_simp
  refine hK _ ?_
  clear hK K
  refine mix_val (.func (.func 52) #[] #[]) (by rfl) (fun w' hw' => ?_) (fun K hK => ?_)
  · have c := hw'.2.cell
    go_simp
  go_simp
  refine hK _ ?_
  clear hK K
  refine mix_free (fun K hK => ?_)
  go_simp
  refine hK _ ?_
  clear hK K
  refine mix_val (.func (.func 53) #[] #[]) (by rfl) (fun w' hw' => ?_) (fun K hK => ?_)
  · have c := hw'.1.cell
    go_simp
  go_simp
  refine hK _ ?_
  clear hK K
  refine mix_free (fun K hK => ?_)
  go_simp
  refine hK _ ?_
  clear hK K
  refine mix_step (fun K hK => ?_) (fun _ _ => ⟨ha, hb⟩)
  go_wp2_with fail
  refine (fn_53 _ _ _ hx hy).mono ?_
  rintro e w1 ⟨rfl, hN⟩
  replace ha := ha.below hN
  replace hb := hb.below hN
  replace hB := hB.trans (hN.mono hB.size)
  clear hN
  go_wp2_with fail
  refine hK _ _ (fun _ _ => ⟨ha, hb⟩) ?_
  clear hK K
  refine mix_step (fun K hK => ?_) (fun _ _ => ⟨ha, hb⟩)
  go_wp2_with fail
  refine (fn_53 _ _ _ (by decide) hy).mono ?_
  rintro e w2 ⟨rfl, hN⟩
  replace ha := ha.below hN
  replace hb := hb.below hN
  replace hB := hB.trans (hN.mono hB.size)
  clear hN
  go_wp2_with fail
  refine hK _ _ (fun _ _ => ⟨ha, hb⟩) ?_
  clear hK K
  refine mix_step (fun K hK => ?_) (fun _ _ => ⟨ha, hb⟩)
  go_wp2_with fail
  refine (fn_52 _ _ _ hx (dob_lt 5 _ _ (by decide) hy)).mono ?_
  rintro e w3 ⟨rfl, hN⟩
  replace ha := ha.below hN
  replace hb := hb.below hN
  replace hB := hB.trans (hN.mono hB.size)
  clear hN
  go_wp2_with fail
  refine hK _ _ (fun _ _ => ⟨ha, hb⟩) ?_
  clear hK K
  refine mix_free (fun K hK => ?_)
  go_simp
  refine hK _ ?_
  clear hK K
  refine mix_free (fun K hK => ?_)
  go_simp
  refine hK _ ?_
  clear hK K
  refine mix_nil ?_
  go_wp2_with fail
  go_ret2
  exact ⟨rfl, hB⟩

/-- Both sides of a law. -/
def sidesb (k x y z : Nat) : Nat × Nat :=
  match k with
  | 1 => ((dob 2 x y), (dob 2 y x))
  | 2 => ((dob 4 x y), (dob 4 y x))
  | 3 => ((dob 6 x y), (dob 6 y x))
  | 4 => ((dob 7 x y), (dob 7 y x))
  | 5 => ((dob 4 x 4607182418800017408), x)
  | 6 => ((dob 5 x 4607182418800017408), x)
  | 7 => ((dob 3 x 0), x)
  | 8 => ((dob 2 x 9223372036854775808), x)
  | 9 => ((dob 1 (dob 1 x 0) 0), x)
  | 10 => ((dob 3 x y), (dob 2 x (dob 1 y 0)))
  | 11 => ((dob 6 x x), x)
  | 12 => ((dob 1 (dob 3 x y) 0), (dob 3 y x))
  | 13 => ((dob 3 x x), 0)
  | 14 => ((dob 4 0 x), 0)
  | 15 => ((dob 2 (dob 2 x y) z), (dob 2 x (dob 2 y z)))
  | 16 => ((dob 4 (dob 4 x y) z), (dob 4 x (dob 4 y z)))
  | 17 => ((dob 4 x (dob 2 y z)), (dob 2 (dob 4 x y) (dob 4 x z)))
  | 18 => ((dob 3 (dob 2 x y) y), x)
  | 19 => ((dob 5 x x), 4607182418800017408)
  | 20 => ((dob 2 x 0), x)
  | 21 => ((dob 5 (dob 4 x y) y), x)
  | 22 => ((dob 6 x 9218868437227405312), x)
  | 23 => ((dob 4 x 13830554455654793216), (dob 1 x 0))
  | 24 => ((dob 5 x y), (dob 4 x (dob 5 4607182418800017408 y)))
  | _ => (0, 0)
end Go.Proofs.Ytajipgcnpemifaa
