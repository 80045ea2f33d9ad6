/- Contracts of the reference's functions: Full, Take, Discard. -/
import Derived.Test.YtadoobkieehajaaX
import Derived.Laws.AppendOwnNone
namespace Go.Proofs.Ytadoobkieehajaa
open Go.RowKit Go.Shelf

/-- A box of a reference's buffer. -/
structure Four (w : World) (x : Nat) (s o : Int) (ad : Option Addr) (n cap : Nat) (g : Int) : Prop where
  blk : w.heap[x]? = some (.cells #[.int .i64 s, .int .i64 o, .slice ad n cap, .int .i64 g] 72)
theorem Four.c0 {w : World} {x : Nat} {s o : Int} {ad : Option Addr} {n cap : Nat} {g : Int} (h : Four w x s o ad n cap g) : w.cell? ⟨x, 0, none⟩ = some (.int .i64 s) := by simp [World.cell?, h.blk]
theorem Four.c1 {w : World} {x : Nat} {s o : Int} {ad : Option Addr} {n cap : Nat} {g : Int} (h : Four w x s o ad n cap g) : w.cell? ⟨x, 1, none⟩ = some (.int .i64 o) := by simp [World.cell?, h.blk]
theorem Four.c2 {w : World} {x : Nat} {s o : Int} {ad : Option Addr} {n cap : Nat} {g : Int} (h : Four w x s o ad n cap g) : w.cell? ⟨x, 2, none⟩ = some (.slice ad n cap) := by simp [World.cell?, h.blk]
theorem Four.c3 {w : World} {x : Nat} {s o : Int} {ad : Option Addr} {n cap : Nat} {g : Int} (h : Four w x s o ad n cap g) : w.cell? ⟨x, 3, none⟩ = some (.int .i64 g) := by simp [World.cell?, h.blk]
theorem Four.lt {w : World} {x : Nat} {s o : Int} {ad : Option Addr} {n cap : Nat} {g : Int} (h : Four w x s o ad n cap g) : x < w.heap.size := (Array.getElem?_eq_some_iff.1 h.blk).1
theorem Four.grown {w w' : World} {x : Nat} {s o : Int} {ad : Option Addr} {n cap : Nat} {g : Int} {row : Option Nat} (h : Four w x s o ad n cap g) (k : w.grownBy w' row) (hr : some x ≠ row) : Four w' x s o ad n cap g := ⟨(k.block x h.lt hr).trans h.blk⟩
theorem Four.heap {w w' : World} {x : Nat} {s o : Int} {ad : Option Addr} {n cap : Nat} {g : Int} (h : Four w x s o ad n cap g) (k : w'.heap = w.heap) : Four w' x s o ad n cap g := ⟨by rw [k]; exact h.blk⟩
theorem Four.cells {w : World} {x : Nat} {s o : Int} {ad : Option Addr} {n cap : Nat} {g : Int} (h : Four w x s o ad n cap g) : w.cell? ⟨x, 0, none⟩ = some (.int .i64 s) ∧ w.cell? ⟨x, 1, none⟩ = some (.int .i64 o) ∧ w.cell? ⟨x, 2, none⟩ = some (.slice ad n cap) ∧ w.cell? ⟨x, 3, none⟩ = some (.int .i64 g) := ⟨h.c0, h.c1, h.c2, h.c3⟩

theorem Four.free {w : World} {x : Nat} {s o : Int} {ad : Option Addr} {n cap : Nat} {g : Int} (h : Four w x s o ad n cap g) (i : Nat) : w.frozen? ⟨x, i, none⟩ = false := by simp [World.frozen?, h.blk]
theorem RefS.drewN {w : World} {b : Nat} {ad : Option Addr} {n cap g : Nat} {all : List UInt8} (h : RefS w b ad n cap g all) (m : Nat) : RefS (w.drewN m) b ad n cap g all := h.grown (grown_drewN w m none) (.inl rfl)

set_option maxRecDepth 100000 in
set_option maxHeartbeats 1000000 in
theorem full_ref (s : Nat) (o : Int) (b : Nat) (ad : Option Addr) (n cap g : Nat) (all : List UInt8) (w : World) (h : RefS w b ad n cap g all) :
    Calls Try.prog 38 #[.agg #[.int .i64 s, .int .i64 o, .slice ad n cap, .int .i64 g]] w fun e w' => e = .returned (.bool (((n - g : Nat) : Int) == s)) ∧ w.grownBy w' none := by
  have gA := World.grownBy_alloc w (.cells #[.int .i64 s, .int .i64 o, .slice ad n cap, .int .i64 g] 72) none
  have hR := h.grown gA (.inl rfl)
  have F : Four (w.alloc (.cells #[.int .i64 s, .int .i64 o, .slice ad n cap, .int .i64 g] 72)) w.heap.size s o ad n cap g := ⟨World.alloc_heap_new _ _⟩
  clear h
  go_enter Try.func38, Try.ntmps38
  go_wp2_with fail
  generalize w.alloc (.cells #[.int .i64 s, .int .i64 o, .slice ad n cap, .int .i64 g] 72) = w1 at gA hR F ⊢
  generalize w.heap.size = x at F ⊢
  refine region_mix [(0, .inl (some 0)), (3, .inl none), (4, .inl (some 0)), (1, .inr [0]), (2, .inl none), (5, .inl none), (6, .inl none)]
    (fun _ W => W.cell? ⟨x, 0, none⟩ = some (.int .i64 s) ∧ W.cell? ⟨x, 1, none⟩ = some (.int .i64 o) ∧ W.cell? ⟨x, 2, none⟩ = some (.slice ad n cap) ∧ W.cell? ⟨x, 3, none⟩ = some (.int .i64 g)) (by kernel_rfl) (by kernel_rfl) (fun _ => F.cells) ?_
  simp only [pickK, List.filterMap_cons, List.filterMap_nil, List.getElem?_toArray, List.getElem?_cons_zero, List.getElem?_cons_succ, Option.map_some]
  replace gA := grown_trans gA (grown_drewN w1 1 none)
  replace F := F.heap (w' := w1.drewN 1) (World.heap_drewN _ _)
  replace hR := hR.drewN 1
  generalize w1.drewN 1 = w2 at gA hR F ⊢
  refine mix_val (.agg #[.int .i64 s, .int .i64 o, .slice ad n cap, .int .i64 g]) (by rfl) (fun w' hw' => ?_) (fun K hK => ?_)
  · obtain ⟨p0, p1, p2, p3⟩ := hw'
    go_simp
  go_simp
  refine hK _ ?_
  clear hK K
  refine mix_free (fun K hK => ?_)
  go_simp
  refine hK _ ?_
  clear hK K
  refine mix_val (.int .i64 s) (by rfl) (fun w' hw' => ?_) (fun K hK => ?_)
  · obtain ⟨p0, p1, p2, p3⟩ := hw'
    go_simp
  go_simp
  refine hK _ ?_
  clear hK K
  refine mix_step (fun K hK => ?_) (keep1 F.cells)
  go_wp2_with fail
  refine (held_any s o b ad n cap g all w2 hR).mono ?_
  rintro e w3 ⟨rfl, g3⟩
  have F3 := F.grown g3 (by simp)
  go_wp2_with fail
  refine hK _ _ (keep1 F3.cells) ?_
  clear hK K
  refine mix_free (fun K hK => ?_)
  go_simp
  refine hK _ ?_
  clear hK K
  refine mix_free (fun K hK => ?_)
  go_simp
  refine hK _ ?_
  clear hK K
  refine mix_free (fun K hK => ?_)
  go_simp
  refine hK _ ?_
  clear hK K
  refine mix_nil ?_
  go_wp2_with fail
  go_ret
  exact ⟨rfl, grown_trans gA g3⟩

theorem Four.put {w : World} {x : Nat} {s o : Int} {ad : Option Addr} {n cap : Nat} {g : Int} (h : Four w x s o ad n cap g) (s' o' : Int) (ad' : Option Addr) (n' cap' : Nat) (g' : Int) :
    Four ((((w.setCell ⟨x, 0, none⟩ (.int .i64 s')).setCell ⟨x, 1, none⟩ (.int .i64 o')).setCell ⟨x, 2, none⟩ (.slice ad' n' cap')).setCell ⟨x, 3, none⟩ (.int .i64 g')) x s' o' ad' n' cap' g' :=
  ⟨by rw [heap_setCell_self _ (heap_setCell_self _ (heap_setCell_self _ (heap_setCell_self _ h.blk)))]; simp⟩
theorem grown4 {w0 w : World} {x : Nat} (h : w0.grownBy w none) (hx : w0.heap.size ≤ x) (v0 v1 v2 v3 : Value) : w0.grownBy ((((w.setCell ⟨x, 0, none⟩ v0).setCell ⟨x, 1, none⟩ v1).setCell ⟨x, 2, none⟩ v2).setCell ⟨x, 3, none⟩ v3) none :=
  grown_setNew (grown_setNew (grown_setNew (grown_setNew h hx _ _) hx _ _) hx _ _) hx _ _

set_option maxRecDepth 100000 in
set_option maxHeartbeats 1000000 in
theorem take_ref_bad (s o : Int) (k : Int) (b : Nat) (ad : Option Addr) (n cap g : Nat) (all : List UInt8) (w : World) (h : RefS w b ad n cap g all) (hk : k < 0 ∨ (0 ≤ k ∧ ((n - g : Nat) : Int) < k)) :
    Calls Try.prog 41 #[.agg #[.int .i64 s, .int .i64 o, .slice ad n cap, .int .i64 g], .int .i64 k] w fun e w' => e = .returned (.tuple #[.agg #[.int .i64 s, .int .i64 o, .slice ad n cap, .int .i64 g], .slice none 0 0, .int .i64 2]) ∧ w.grownBy w' none := by
  have gA := World.grownBy_alloc w (.cells #[.int .i64 s, .int .i64 o, .slice ad n cap, .int .i64 g] 72) none
  have gB := grown_trans gA (World.grownBy_alloc _ (.cells #[.int .i64 0, .int .i64 0, .slice none 0 0, .int .i64 0] 72) none)
  have hR := h.grown gB (.inl rfl)
  have F : Four ((w.alloc (.cells #[.int .i64 s, .int .i64 o, .slice ad n cap, .int .i64 g] 72)).alloc (.cells #[.int .i64 0, .int .i64 0, .slice none 0 0, .int .i64 0] 72)) w.heap.size s o ad n cap g := Four.grown ⟨World.alloc_heap_new _ _⟩ (World.grownBy_alloc _ _ none) (by simp)
  have G : Four ((w.alloc (.cells #[.int .i64 s, .int .i64 o, .slice ad n cap, .int .i64 g] 72)).alloc (.cells #[.int .i64 0, .int .i64 0, .slice none 0 0, .int .i64 0] 72)) (w.heap.size + 1) 0 0 none 0 0 0 := ⟨by have := World.alloc_heap_new (w.alloc (.cells #[.int .i64 s, .int .i64 o, .slice ad n cap, .int .i64 g] 72)) (.cells #[.int .i64 0, .int .i64 0, .slice none 0 0, .int .i64 0] 72); simpa using this⟩
  rcases hk with hk | ⟨hk0, hk⟩
  · have gE := grown_trans gA (World.grownBy_alloc _ (.cells #[.int .i64 s, .int .i64 o, .slice ad n cap, .int .i64 g] 72) none)
    go_enter Try.func41, Try.ntmps41
    go_wp2_with fail
    refine bodyPost_ret (v := .tuple #[.agg #[.int .i64 s, .int .i64 o, .slice ad n cap, .int .i64 g], .slice none 0 0, .int .i64 2]) (by simp [results, Try.results41, go_sem]) rfl ⟨rfl, gE⟩
  · have hkn : ¬ k < 0 := by omega
    go_enter Try.func41, Try.ntmps41
    go_wp2_with fail
    generalize (w.alloc (.cells #[.int .i64 s, .int .i64 o, .slice ad n cap, .int .i64 g] 72)).alloc (.cells #[.int .i64 0, .int .i64 0, .slice none 0 0, .int .i64 0] 72) = w1 at gB hR F G ⊢
    generalize hx : w.heap.size = x at F G ⊢
    have HX := Lib.hid hx
    clear hx
    refine (held_any s o b ad n cap g all w1 hR).mono ?_
    rintro e w2 ⟨rfl, g2⟩
    have F2 := F.grown g2 (by simp)
    have G2 := G.grown g2 (by simp)
    have gC := grown_trans gB g2
    clear F G hR
    have c0 := F2.c0
    have c1 := F2.c1
    have c2 := F2.c2
    have c3 := F2.c3
    have d0 := G2.c0
    have d1 := G2.c1
    have d2 := G2.c2
    have d3 := G2.c3
    have z0 := G2.free 0
    have z1 := G2.free 1
    have z2 := G2.free 2
    have z3 := G2.free 3
    go_wp2_with fail
    have P := G2.put s o ad n cap (g)
    have e0 := P.c0
    have e1 := P.c1
    have e2 := P.c2
    have e3 := P.c3
    refine bodyPost_ret (v := .tuple #[.agg #[.int .i64 s, .int .i64 o, .slice ad n cap, .int .i64 g], .slice none 0 0, .int .i64 2]) (by simp [results, Try.results41, go_sem, e0, e1, e2, e3]) rfl ⟨rfl, ?_⟩
    exact grown4 gC (by rw [HX.out]; exact Nat.le_succ _) _ _ _ _

set_option maxRecDepth 100000 in
set_option maxHeartbeats 1000000 in
theorem take_ref_ok (s o : Int) (k : Nat) (b : Nat) (ad : Option Addr) (n cap g : Nat) (all : List UInt8) (w : World) (h : RefS w b ad n cap g all) (hk : k ≤ n - g) (hn : n ≤ 100000) :
    Calls Try.prog 41 #[.agg #[.int .i64 s, .int .i64 o, .slice ad n cap, .int .i64 g], .int .i64 k] w fun e w' => ∃ ad' cap', e = .returned (.tuple #[.agg #[.int .i64 s, .int .i64 o, .slice ad n cap, .int .i64 (g + k)], .slice ad' k cap', .int .i64 0]) ∧ Slc w' ad' ((all.drop g).take k) ∧ k ≤ cap' ∧ w.grownBy w' none := by
  have hle := h.le
  have gA := World.grownBy_alloc w (.cells #[.int .i64 s, .int .i64 o, .slice ad n cap, .int .i64 g] 72) none
  have gB := grown_trans gA (World.grownBy_alloc _ (.cells #[.int .i64 0, .int .i64 0, .slice none 0 0, .int .i64 0] 72) none)
  have hR := h.grown gB (.inl rfl)
  have F : Four ((w.alloc (.cells #[.int .i64 s, .int .i64 o, .slice ad n cap, .int .i64 g] 72)).alloc (.cells #[.int .i64 0, .int .i64 0, .slice none 0 0, .int .i64 0] 72)) w.heap.size s o ad n cap g := Four.grown ⟨World.alloc_heap_new _ _⟩ (World.grownBy_alloc _ _ none) (by simp)
  have G : Four ((w.alloc (.cells #[.int .i64 s, .int .i64 o, .slice ad n cap, .int .i64 g] 72)).alloc (.cells #[.int .i64 0, .int .i64 0, .slice none 0 0, .int .i64 0] 72)) (w.heap.size + 1) 0 0 none 0 0 0 := ⟨by have := World.alloc_heap_new (w.alloc (.cells #[.int .i64 s, .int .i64 o, .slice ad n cap, .int .i64 g] 72)) (.cells #[.int .i64 0, .int .i64 0, .slice none 0 0, .int .i64 0] 72); simpa using this⟩
  · have hkn : ¬ (k : Int) < 0 := by omega
    have hkl : ¬ ((n - g : Nat) : Int) < k := by omega
    have hgk : (g : Int) + k ≤ 100000 := by omega
    go_enter Try.func41, Try.ntmps41
    go_wp2_with fail
    generalize (w.alloc (.cells #[.int .i64 s, .int .i64 o, .slice ad n cap, .int .i64 g] 72)).alloc (.cells #[.int .i64 0, .int .i64 0, .slice none 0 0, .int .i64 0] 72) = w1 at gB hR F G ⊢
    generalize hx : w.heap.size = x at F G ⊢
    have HX := Lib.hid hx
    clear hx
    refine (held_any s o b ad n cap g all w1 hR).mono ?_
    rintro e w2 ⟨rfl, g2⟩
    have F2 := F.grown g2 (by simp)
    have G2 := G.grown g2 (by simp)
    have gC := grown_trans gB g2
    clear F G hR
    have c0 := F2.c0
    have c1 := F2.c1
    have c2 := F2.c2
    have c3 := F2.c3
    have d0 := G2.c0
    have d1 := G2.c1
    have d2 := G2.c2
    have d3 := G2.c3
    have z0 := G2.free 0
    have z1 := G2.free 1
    have z2 := G2.free 2
    have z3 := G2.free 3
    go_wp2_with fail
    refine (held_any s o b ad n cap g all w2 (h.grown gC (.inl rfl))).mono ?_
    rintro e w3 ⟨rfl, g3⟩
    clear c0 c1 c2 c3 d0 d1 d2 d3 z0 z1 z2 z3
    replace F2 := F2.grown g3 (by simp)
    replace G2 := G2.grown g3 (by simp)
    replace gC := grown_trans gC g3
    have y3 := F2.free 3
    have hkc : (k : Int) ≤ (cap - g : Nat) := by have := h.fits; omega
    have hsh := h.held
    generalize cap - g = cap3 at hkc ⊢
    generalize adOff ad cap g = ad3 at hsh ⊢
    have c0 := F2.c0
    have c1 := F2.c1
    have c2 := F2.c2
    have c3 := F2.c3
    have d0 := G2.c0
    have d1 := G2.c1
    have d2 := G2.c2
    have d3 := G2.c3
    have z0 := G2.free 0
    have z1 := G2.free 1
    have z2 := G2.free 2
    have z3 := G2.free 3
    go_wp2_with fail
    have gD := grown_setNew gC (b := x) (by rw [HX.out]; exact Nat.le_refl _) 3 (.int .i64 (g + k))
    have G3 := G2.grown (grown_setCell w3 x 3 (.int .i64 (g + k))) (by simp)
    have hsf := hsh.take k
    have gF := grown4 gD (x := x + 1) (by rw [HX.out]; exact Nat.le_succ _) (.int .i64 s) (.int .i64 o) (.slice ad n cap) (.int .i64 (g + k))
    have P := G3.put s o ad n cap (g + k)
    have e0 := P.c0
    have e1 := P.c1
    have e2 := P.c2
    have e3 := P.c3
    refine bodyPost_ret (v := .tuple #[.agg #[.int .i64 s, .int .i64 o, .slice ad n cap, .int .i64 (g + k)], .slice ad3 k cap3, .int .i64 0]) (by simp [results, Try.results41, go_sem, e0, e1, e2, e3]) rfl ⟨ad3, cap3, rfl, ?_, by omega, ?_⟩
    · exact hsf.below (below_of_grown gF) (Nat.le_refl _)
    exact grown4 gD (by rw [HX.out]; exact Nat.le_succ _) _ _ _ _

set_option maxRecDepth 100000 in
set_option maxHeartbeats 1000000 in
theorem discard_ref (s o : Nat) (b : Nat) (ad : Option Addr) (n cap g : Nat) (all : List UInt8) (w : World) (h : RefS w b ad n cap g all) (hf : n - g < s) :
    Calls Try.prog 42 #[.agg #[.int .i64 s, .int .i64 o, .slice ad n cap, .int .i64 g]] w fun e w' => e = .returned (.tuple #[.agg #[.int .i64 s, .int .i64 o, .slice ad n cap, .int .i64 g], .int .i64 0, .int .i64 310]) ∧ w.grownBy w' none := by
  have gA := World.grownBy_alloc w (.cells #[.int .i64 s, .int .i64 o, .slice ad n cap, .int .i64 g] 72) none
  have gB := grown_trans gA (World.grownBy_alloc _ (.cells #[.int .i64 0, .int .i64 0, .slice none 0 0, .int .i64 0] 72) none)
  have hR := h.grown gB (.inl rfl)
  have F : Four ((w.alloc (.cells #[.int .i64 s, .int .i64 o, .slice ad n cap, .int .i64 g] 72)).alloc (.cells #[.int .i64 0, .int .i64 0, .slice none 0 0, .int .i64 0] 72)) w.heap.size s o ad n cap g := Four.grown ⟨World.alloc_heap_new _ _⟩ (World.grownBy_alloc _ _ none) (by simp)
  have G : Four ((w.alloc (.cells #[.int .i64 s, .int .i64 o, .slice ad n cap, .int .i64 g] 72)).alloc (.cells #[.int .i64 0, .int .i64 0, .slice none 0 0, .int .i64 0] 72)) (w.heap.size + 1) 0 0 none 0 0 0 := ⟨by have := World.alloc_heap_new (w.alloc (.cells #[.int .i64 s, .int .i64 o, .slice ad n cap, .int .i64 g] 72)) (.cells #[.int .i64 0, .int .i64 0, .slice none 0 0, .int .i64 0] 72); simpa using this⟩
  · have hfb : (((n - g : Nat) : Int) == s) = false := by simp; omega
    go_enter Try.func42, Try.ntmps42
    go_wp2_with fail
    generalize (w.alloc (.cells #[.int .i64 s, .int .i64 o, .slice ad n cap, .int .i64 g] 72)).alloc (.cells #[.int .i64 0, .int .i64 0, .slice none 0 0, .int .i64 0] 72) = w1 at gB hR F G ⊢
    generalize hx : w.heap.size = x at F G ⊢
    have HX := Lib.hid hx
    clear hx
    refine (full_ref s o b ad n cap g all w1 hR).mono ?_
    rintro e w2 ⟨rfl, g2⟩
    have F2 := F.grown g2 (by simp)
    have G2 := G.grown g2 (by simp)
    have gC := grown_trans gB g2
    clear F G hR
    have c0 := F2.c0
    have c1 := F2.c1
    have c2 := F2.c2
    have c3 := F2.c3
    have d0 := G2.c0
    have d1 := G2.c1
    have d2 := G2.c2
    have d3 := G2.c3
    have z0 := G2.free 0
    have z1 := G2.free 1
    have z2 := G2.free 2
    have z3 := G2.free 3
    go_wp2_with fail
    have P := G2.put s o ad n cap (g)
    have e0 := P.c0
    have e1 := P.c1
    have e2 := P.c2
    have e3 := P.c3
    refine bodyPost_ret (v := .tuple #[.agg #[.int .i64 s, .int .i64 o, .slice ad n cap, .int .i64 g], .int .i64 0, .int .i64 310]) (by simp [results, Try.results42, go_sem, e0, e1, e2, e3]) rfl ⟨rfl, ?_⟩
    exact grown4 gC (by rw [HX.out]; exact Nat.le_succ _) _ _ _ _

set_option maxRecDepth 100000 in
set_option maxHeartbeats 1000000 in
theorem discard_ref_full (s o : Nat) (b : Nat) (ad : Option Addr) (n cap g : Nat) (all : List UInt8) (w : World) (h : RefS w b ad n cap g all) (hf : n - g = s) (hs : s ≤ 256) (hn : n ≤ 100000) :
    Calls Try.prog 42 #[.agg #[.int .i64 s, .int .i64 o, .slice ad n cap, .int .i64 g]] w fun e w' => e = .returned (.tuple #[.agg #[.int .i64 s, .int .i64 o, .slice ad n cap, .int .i64 (g + ((s + 1) / 2 : Nat))], .int .i64 ((s + 1) / 2 : Nat), .int .i64 0]) ∧ w.grownBy w' none := by
  have hle := h.le
  have gA := World.grownBy_alloc w (.cells #[.int .i64 s, .int .i64 o, .slice ad n cap, .int .i64 g] 72) none
  have gB := grown_trans gA (World.grownBy_alloc _ (.cells #[.int .i64 0, .int .i64 0, .slice none 0 0, .int .i64 0] 72) none)
  have hR := h.grown gB (.inl rfl)
  have F : Four ((w.alloc (.cells #[.int .i64 s, .int .i64 o, .slice ad n cap, .int .i64 g] 72)).alloc (.cells #[.int .i64 0, .int .i64 0, .slice none 0 0, .int .i64 0] 72)) w.heap.size s o ad n cap g := Four.grown ⟨World.alloc_heap_new _ _⟩ (World.grownBy_alloc _ _ none) (by simp)
  have G : Four ((w.alloc (.cells #[.int .i64 s, .int .i64 o, .slice ad n cap, .int .i64 g] 72)).alloc (.cells #[.int .i64 0, .int .i64 0, .slice none 0 0, .int .i64 0] 72)) (w.heap.size + 1) 0 0 none 0 0 0 := ⟨by have := World.alloc_heap_new (w.alloc (.cells #[.int .i64 s, .int .i64 o, .slice ad n cap, .int .i64 g] 72)) (.cells #[.int .i64 0, .int .i64 0, .slice none 0 0, .int .i64 0] 72); simpa using this⟩
  · have hfb : (((n - g : Nat) : Int) == s) = true := by simp; omega
    obtain ⟨hh, hhe⟩ : ∃ x, x = (s + 1) / 2 := ⟨_, rfl⟩
    rw [← hhe]
    obtain ⟨q, hq⟩ : ∃ q : Nat, (s : Int).tdiv 2 = q := ⟨s / 2, by rw [Int.tdiv_eq_ediv_of_nonneg (by omega)]; omega⟩
    obtain ⟨r, hr⟩ : ∃ r : Nat, (s : Int).tmod 2 = r := ⟨s % 2, by rw [Int.tmod_eq_emod_of_nonneg (by omega)]; omega⟩
    have hqr : (q : Int) + r = hh := by rw [Int.tdiv_eq_ediv_of_nonneg (by omega)] at hq; rw [Int.tmod_eq_emod_of_nonneg (by omega)] at hr; omega
    have hb1 : (q : Int) ≤ 128 ∧ (r : Int) ≤ 1 := by rw [Int.tdiv_eq_ediv_of_nonneg (by omega)] at hq; rw [Int.tmod_eq_emod_of_nonneg (by omega)] at hr; omega
    have hb2 : (hh : Int) ≤ 129 := by omega
    have hgb : (g : Int) ≤ 100000 := by omega
    obtain ⟨hb3, hb4⟩ := hb1
    clear hhe
    go_enter Try.func42, Try.ntmps42
    go_wp2_with fail
    generalize (w.alloc (.cells #[.int .i64 s, .int .i64 o, .slice ad n cap, .int .i64 g] 72)).alloc (.cells #[.int .i64 0, .int .i64 0, .slice none 0 0, .int .i64 0] 72) = w1 at gB hR F G ⊢
    generalize hx : w.heap.size = x at F G ⊢
    have HX := Lib.hid hx
    clear hx
    refine (full_ref s o b ad n cap g all w1 hR).mono ?_
    rintro e w2 ⟨rfl, g2⟩
    have F2 := F.grown g2 (by simp)
    have G2 := G.grown g2 (by simp)
    have gC := grown_trans gB g2
    clear F G hR
    have y3 := F2.free 3
    have c0 := F2.c0
    have c1 := F2.c1
    have c2 := F2.c2
    have c3 := F2.c3
    have d0 := G2.c0
    have d1 := G2.c1
    have d2 := G2.c2
    have d3 := G2.c3
    have z0 := G2.free 0
    have z1 := G2.free 1
    have z2 := G2.free 2
    have z3 := G2.free 3
    go_wp2_with fail
    have gD := grown_setNew gC (b := x) (by rw [HX.out]; exact Nat.le_refl _) 3 (.int .i64 (g + hh))
    have G3 := G2.grown (grown_setCell w2 x 3 (.int .i64 (g + hh))) (by simp)
    have P := G3.put s o ad n cap (g + hh)
    have e0 := P.c0
    have e1 := P.c1
    have e2 := P.c2
    have e3 := P.c3
    refine bodyPost_ret (v := .tuple #[.agg #[.int .i64 s, .int .i64 o, .slice ad n cap, .int .i64 (g + hh)], .int .i64 hh, .int .i64 0]) (by simp [results, Try.results42, go_sem, e0, e1, e2, e3]) rfl ⟨rfl, ?_⟩
    exact grown4 gD (by rw [HX.out]; exact Nat.le_succ _) _ _ _ _

end Go.Proofs.Ytadoobkieehajaa
