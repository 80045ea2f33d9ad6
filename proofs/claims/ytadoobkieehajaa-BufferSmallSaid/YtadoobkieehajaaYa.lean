/- Contracts of the reference's Put. -/
import Derived.Test.YtadoobkieehajaaY
namespace Go.Proofs.Ytadoobkieehajaa
open Go.RowKit Go.Shelf

theorem RefS.of_owns {w : World} {base b : Nat} {ad : Option Addr} {n cap g : Nat} {l : List UInt8} (h : w.ownsRow base 5 1 (.slice ad n cap) n (l.map B)) (hb : b < base) (hg : g ≤ n) : RefS w b ad n cap g l := by
  obtain ⟨h1, h2⟩ := slc_of_owns h
  have hlt := h.lt
  rcases h.2 with ⟨e, rfl⟩ | ⟨x, cap', cur, e, hx, hh, hn, hm, _⟩
  · simp only [Value.slice.injEq] at e
    obtain ⟨rfl, _, rfl⟩ := e
    exact ⟨h2, h1, Nat.le_refl _, by unfold maxLen; omega, hg, (fun _ => rfl), (fun x hx => by cases hx), (fun x hx => by cases hx)⟩
  · simp only [Value.slice.injEq] at e
    obtain ⟨rfl, _, rfl⟩ := e
    refine ⟨h2, h1, hn, hm, hg, (fun e => by cases e), (fun y hy => ?_), (fun y hy => ?_)⟩
    · cases hy
      show x ≠ b
      omega
    · cases hy
      exact (hlt x rfl).2

theorem grown_step {w0 w w' : World} {row : Option Nat} (h : w0.grownBy w none) (k : w.grownBy w' row) (hr : ∀ r, row = some r → w0.heap.size ≤ r) : w0.grownBy w' none :=
  ⟨k.os.trans h.os, k.tape.trans h.tape, k.output.trans h.output, Nat.le_trans h.size k.size, fun i hi _ =>
    (k.block i (Nat.lt_of_lt_of_le hi h.size) (fun e => by have := hr i e.symm; omega)).trans (h.block i hi (by simp))⟩

set_option maxRecDepth 100000 in
set_option maxHeartbeats 1000000 in
theorem put_ref_full (s o : Nat) (c : UInt8) (b : Nat) (ad : Option Addr) (n cap g : Nat) (all : List UInt8) (w : World) (h : RefS w b ad n cap g all) (hf : n - g = s) :
    Calls Try.prog 40 #[.agg #[.int .i64 s, .int .i64 o, .slice ad n cap, .int .i64 g], .int .u8 c.toNat] w fun e w' => e = .returned (.tuple #[.agg #[.int .i64 s, .int .i64 o, .slice ad n cap, .int .i64 g], .int .i64 4]) ∧ w.grownBy w' none := by
  have gA := World.grownBy_alloc w (.cells #[.int .i64 s, .int .i64 o, .slice ad n cap, .int .i64 g] 72) none
  have gB := grown_trans gA (World.grownBy_alloc _ (.cells #[.int .i64 0, .int .i64 0, .slice none 0 0, .int .i64 0] 72) none)
  have hR := h.grown gB (.inl rfl)
  have F : Four ((w.alloc (.cells #[.int .i64 s, .int .i64 o, .slice ad n cap, .int .i64 g] 72)).alloc (.cells #[.int .i64 0, .int .i64 0, .slice none 0 0, .int .i64 0] 72)) w.heap.size s o ad n cap g := Four.grown ⟨World.alloc_heap_new _ _⟩ (World.grownBy_alloc _ _ none) (by simp)
  have G : Four ((w.alloc (.cells #[.int .i64 s, .int .i64 o, .slice ad n cap, .int .i64 g] 72)).alloc (.cells #[.int .i64 0, .int .i64 0, .slice none 0 0, .int .i64 0] 72)) (w.heap.size + 1) 0 0 none 0 0 0 := ⟨by have := World.alloc_heap_new (w.alloc (.cells #[.int .i64 s, .int .i64 o, .slice ad n cap, .int .i64 g] 72)) (.cells #[.int .i64 0, .int .i64 0, .slice none 0 0, .int .i64 0] 72); simpa using this⟩
  · have hfb : (((n - g : Nat) : Int) == s) = true := by simp; omega
    go_enter Try.func40, Try.ntmps40
    go_wp2_with fail
    generalize (w.alloc (.cells #[.int .i64 s, .int .i64 o, .slice ad n cap, .int .i64 g] 72)).alloc (.cells #[.int .i64 0, .int .i64 0, .slice none 0 0, .int .i64 0] 72) = w1 at gB hR F G ⊢
    generalize hx : w.heap.size = x at F G ⊢
    have HX := Lib.hid hx
    clear hx
    refine (full_ref s o b ad n cap g all w1 hR).mono ?_
    rintro e w2 ⟨rfl, g2⟩
    have F2 := F.grown g2 (by simp)
    have G2 := G.grown g2 (by simp)
    have gC := grown_trans gB g2
    clear F G hR
    have c0 := F2.c0
    have c1 := F2.c1
    have c2 := F2.c2
    have c3 := F2.c3
    have d0 := G2.c0
    have d1 := G2.c1
    have d2 := G2.c2
    have d3 := G2.c3
    have z0 := G2.free 0
    have z1 := G2.free 1
    have z2 := G2.free 2
    have z3 := G2.free 3
    go_wp2_with fail
    have P := G2.put s o ad n cap (g)
    have e0 := P.c0
    have e1 := P.c1
    have e2 := P.c2
    have e3 := P.c3
    refine bodyPost_ret (v := .tuple #[.agg #[.int .i64 s, .int .i64 o, .slice ad n cap, .int .i64 g], .int .i64 4]) (by simp [results, Try.results40, go_sem, e0, e1, e2, e3]) rfl ⟨rfl, ?_⟩
    exact grown4 gC (by rw [HX.out]; exact Nat.le_succ _) _ _ _ _

set_option maxRecDepth 100000 in
set_option maxHeartbeats 1000000 in
theorem put_ref_long (s o : Nat) (c : UInt8) (b : Nat) (ad : Option Addr) (n cap g : Nat) (all : List UInt8) (w : World) (h : RefS w b ad n cap g all) (hf : n - g < s) (hl : 281474976710656 ≤ o + n) (ho : o ≤ 281474976710656) (hn : n ≤ 100000) :
    Calls Try.prog 40 #[.agg #[.int .i64 s, .int .i64 o, .slice ad n cap, .int .i64 g], .int .u8 c.toNat] w fun e w' => e = .returned (.tuple #[.agg #[.int .i64 s, .int .i64 o, .slice ad n cap, .int .i64 g], .int .i64 3]) ∧ w.grownBy w' none := by
  have gA := World.grownBy_alloc w (.cells #[.int .i64 s, .int .i64 o, .slice ad n cap, .int .i64 g] 72) none
  have gB := grown_trans gA (World.grownBy_alloc _ (.cells #[.int .i64 0, .int .i64 0, .slice none 0 0, .int .i64 0] 72) none)
  have hR := h.grown gB (.inl rfl)
  have F : Four ((w.alloc (.cells #[.int .i64 s, .int .i64 o, .slice ad n cap, .int .i64 g] 72)).alloc (.cells #[.int .i64 0, .int .i64 0, .slice none 0 0, .int .i64 0] 72)) w.heap.size s o ad n cap g := Four.grown ⟨World.alloc_heap_new _ _⟩ (World.grownBy_alloc _ _ none) (by simp)
  have G : Four ((w.alloc (.cells #[.int .i64 s, .int .i64 o, .slice ad n cap, .int .i64 g] 72)).alloc (.cells #[.int .i64 0, .int .i64 0, .slice none 0 0, .int .i64 0] 72)) (w.heap.size + 1) 0 0 none 0 0 0 := ⟨by have := World.alloc_heap_new (w.alloc (.cells #[.int .i64 s, .int .i64 o, .slice ad n cap, .int .i64 g] 72)) (.cells #[.int .i64 0, .int .i64 0, .slice none 0 0, .int .i64 0] 72); simpa using this⟩
  · have hfb : (((n - g : Nat) : Int) == s) = false := by simp; omega
    have hl1 : (281474976710656 : Int) ≤ o + n := by omega
    have hl2 : (o : Int) + n ≤ 281474976810656 := by omega
    go_enter Try.func40, Try.ntmps40
    go_wp2_with fail
    generalize (w.alloc (.cells #[.int .i64 s, .int .i64 o, .slice ad n cap, .int .i64 g] 72)).alloc (.cells #[.int .i64 0, .int .i64 0, .slice none 0 0, .int .i64 0] 72) = w1 at gB hR F G ⊢
    generalize hx : w.heap.size = x at F G ⊢
    have HX := Lib.hid hx
    clear hx
    refine (full_ref s o b ad n cap g all w1 hR).mono ?_
    rintro e w2 ⟨rfl, g2⟩
    have F2 := F.grown g2 (by simp)
    have G2 := G.grown g2 (by simp)
    have gC := grown_trans gB g2
    clear F G hR
    have c0 := F2.c0
    have c1 := F2.c1
    have c2 := F2.c2
    have c3 := F2.c3
    have d0 := G2.c0
    have d1 := G2.c1
    have d2 := G2.c2
    have d3 := G2.c3
    have z0 := G2.free 0
    have z1 := G2.free 1
    have z2 := G2.free 2
    have z3 := G2.free 3
    go_wp2_with fail
    have P := G2.put s o ad n cap (g)
    have e0 := P.c0
    have e1 := P.c1
    have e2 := P.c2
    have e3 := P.c3
    refine bodyPost_ret (v := .tuple #[.agg #[.int .i64 s, .int .i64 o, .slice ad n cap, .int .i64 g], .int .i64 3]) (by simp [results, Try.results40, go_sem, e0, e1, e2, e3]) rfl ⟨rfl, ?_⟩
    exact grown4 gC (by rw [HX.out]; exact Nat.le_succ _) _ _ _ _

set_option maxRecDepth 100000 in
set_option maxHeartbeats 1000000 in
theorem put_ref_ok (s o : Nat) (c : UInt8) (b : Nat) (ad : Option Addr) (n cap g : Nat) (all : List UInt8) (w : World) (h : RefS w b ad n cap g all) (hf : n - g < s) (hl : o + n < 281474976710656) (hn : n ≤ 100000) :
    Calls Try.prog 40 #[.agg #[.int .i64 s, .int .i64 o, .slice ad n cap, .int .i64 g], .int .u8 c.toNat] w fun e w' => ∃ ad' cap', e = .returned (.tuple #[.agg #[.int .i64 s, .int .i64 o, .slice ad' (n + 1 : Nat) cap', .int .i64 g], .int .i64 0]) ∧ (∀ b', b' < w.heap.size → RefS w' b' ad' (n + 1) cap' g (all ++ [c])) ∧ w.grownBy w' none := by
  obtain ⟨i0, hi0, hz0, hz1, hz2⟩ := info_parts Try.info5
  have gA := World.grownBy_alloc w (.cells #[.int .i64 s, .int .i64 o, .slice ad n cap, .int .i64 g] 72) none
  have gB := grown_trans gA (World.grownBy_alloc _ (.cells #[.int .i64 0, .int .i64 0, .slice none 0 0, .int .i64 0] 72) none)
  have hR := h.grown gB (.inl rfl)
  have F : Four ((w.alloc (.cells #[.int .i64 s, .int .i64 o, .slice ad n cap, .int .i64 g] 72)).alloc (.cells #[.int .i64 0, .int .i64 0, .slice none 0 0, .int .i64 0] 72)) w.heap.size s o ad n cap g := Four.grown ⟨World.alloc_heap_new _ _⟩ (World.grownBy_alloc _ _ none) (by simp)
  have G : Four ((w.alloc (.cells #[.int .i64 s, .int .i64 o, .slice ad n cap, .int .i64 g] 72)).alloc (.cells #[.int .i64 0, .int .i64 0, .slice none 0 0, .int .i64 0] 72)) (w.heap.size + 1) 0 0 none 0 0 0 := ⟨by have := World.alloc_heap_new (w.alloc (.cells #[.int .i64 s, .int .i64 o, .slice ad n cap, .int .i64 g] 72)) (.cells #[.int .i64 0, .int .i64 0, .slice none 0 0, .int .i64 0] 72); simpa using this⟩
  · have hfb : (((n - g : Nat) : Int) == s) = false := by simp; omega
    have hl1 : decide ((281474976710656 : Int) ≤ (o : Int) + n) = false := by simp; omega
    have hl2 : (o : Int) + n ≤ 281474976810656 := by omega
    have HL := Lib.hid hl
    clear hl
    go_enter Try.func40, Try.ntmps40
    go_wp2_with fail
    generalize (w.alloc (.cells #[.int .i64 s, .int .i64 o, .slice ad n cap, .int .i64 g] 72)).alloc (.cells #[.int .i64 0, .int .i64 0, .slice none 0 0, .int .i64 0] 72) = w1 at gB hR F G ⊢
    generalize hx : w.heap.size = x at F G ⊢
    have HX := Lib.hid hx
    clear hx
    refine (full_ref s o b ad n cap g all w1 hR).mono ?_
    rintro e w2 ⟨rfl, g2⟩
    have F2 := F.grown g2 (by simp)
    have G2 := G.grown g2 (by simp)
    have gC := grown_trans gB g2
    clear F G hR
    have c0 := F2.c0
    have c1 := F2.c1
    have c2 := F2.c2
    have c3 := F2.c3
    have d0 := G2.c0
    have d1 := G2.c1
    have d2 := G2.c2
    have d3 := G2.c3
    have z0 := G2.free 0
    have z1 := G2.free 1
    have z2 := G2.free 2
    have z3 := G2.free 3
    have k3 := World.grownBy_alloc w2 (.cells #[] 5) none
    have F3 := F2.grown k3 (by simp)
    have hxs := F2.lt
    have hys := G2.lt
    have a0 := F3.c0
    have a1 := F3.c1
    have a2 := F3.c2
    have a3 := F3.c3
    have hgn := h.le
    have hmade : (w2.alloc (.cells #[] 5)).ownsRow w2.heap.size 5 1 (.slice (some ⟨w2.heap.size, 0, none⟩) 0 0) 0 [] := World.ownsRow_made w2 #[] 0 (Nat.le_refl _) (Nat.zero_le _) rfl
    have hba : w2.heap.size ≤ (w2.alloc (.cells #[] 5)).heap.size := by simp
    have hbw2 := gC.size
    have HM := Lib.hid hmade
    have HXS := Lib.hid hxs
    have HYS := Lib.hid hys
    clear hmade hxs hys
    cases ad with
    | none =>
      have hcz := h.nil rfl
      have hnz : n = 0 := by have := h.fits; omega
      have hall : all = [] := List.eq_nil_of_length_eq_zero (h.len.trans hnz)
      subst hcz hnz hall
      have hl4 : decide ((281474976710656 : Int) ≤ (o : Int)) = false := by have := HL.out; simp; omega
      clear hl1 hl2
      have G3 := G2.grown k3 (by simp)
      have hz : (w2.alloc (.cells #[] 5)).heap.size = w2.heap.size + 1 := by simp
      have hcell : ∀ j u, [Value.int .u8 c.toNat][j]? = some u → ((w2.alloc (.cells #[] 5)).alloc (.cells #[.int .u8 c.toNat] 5)).cell? ((⟨w2.heap.size + 1, 0, none⟩ : Addr).add j) = some u := by
        have := cell_one_new (w2.alloc (.cells #[] 5)) (.int .u8 c.toNat) 5
        rw [hz] at this
        exact this
      have HCELL := Lib.hid hcell
      have hob : (o : Int) ≤ 281474976710656 := by have := HL.out; omega
      have h63 : 0 + 1 ≤ maxLen ∧ (0 + 1) * 1 ≤ 140737488355328 := ⟨by unfold maxLen; omega, by omega⟩
      have H63 := Lib.hid h63
      clear hcell hz h63
      go_wp2_with (at_builtin; first
        | (refine wpList_append_own_at _ rfl _ _ 23 rfl w2.heap.size 5 i0 (.int .u8 0) 1 1 Try.underlying23 hi0 hz0 hz1 hz2 rfl (by decide) _ _ _ rfl (HM.out.alloc _) ⟨w2.heap.size + 1, 0, none⟩ 1 1 [.int .u8 c.toNat] rfl rfl HCELL.out (by simp [Value.oneCell']) H63.out.1 H63.out.2 (by simp; omega) ?_
           intro v2 wC hown2 hgr2 _ hb2
           obtain ⟨q2, c2', rfl, _⟩ := own_slice hown2
           have k5 := grown_trans (World.grownBy_alloc (w2.alloc (.cells #[] 5)) (.cells #[.int .u8 c.toNat] 5) none) (grown_refl _ _)
           have F5 := F3.grown k5 (by simp)
           have G5 := G3.grown k5 (by simp)
           have hxq : some x ≠ (Value.slice (some ⟨w2.heap.size, 0, none⟩) 0 0).ownBlock := fun e => by have := (HM.out.lt x e.symm).1; have := HXS.out; omega
           have hyq : some (x + 1) ≠ (Value.slice (some ⟨w2.heap.size, 0, none⟩) 0 0).ownBlock := fun e => by have := (HM.out.lt (x + 1) e.symm).1; have := HYS.out; omega
           have F6 := F5.grown hgr2 hxq
           have G6 := G5.grown hgr2 hyq
           have hgr3 : ((w2.alloc (.cells #[] 5)).alloc (.cells #[.int .u8 c.toNat] 5)).grownBy wC (Value.slice (some ⟨w2.heap.size, 0, none⟩) 0 0).ownBlock := hgr2
           have gE := grown_step (grown_step (grown_step gC (grown_any (some w2.heap.size) k3) (fun r e => by cases e; exact gC.size)) k5 (fun r e => by cases e)) hgr3 (fun r e => Nat.le_trans gC.size (HM.out.lt r e).1)
           clear hgr2 hb2
           have y0 := F6.c0
           have y1 := F6.c1
           have y2 := F6.c2
           have y3 := F6.c3
           have y4 := F6.free 2
           have u0 := G6.c0
           have u1 := G6.c1
           have u2 := G6.c2
           have u3 := G6.c3
           have v0 := G6.free 0
           have v1 := G6.free 1
           have v2 := G6.free 2
           have v3 := G6.free 3))
      have G7 := G6.grown (grown_setCell wC x 2 (.slice q2 (0 + 1) c2')) (by simp)
      have P := G7.put s o q2 (0 + 1) c2' g
      have e0 := P.c0
      have e1 := P.c1
      have e2 := P.c2
      have e3 := P.c3
      have gF := grown_setNew gE (b := x) (by rw [HX.out]; exact Nat.le_refl _) 2 (.slice q2 (0 + 1) c2')
      have o1 := hown2.kept (grown_setCell wC x 2 (.slice q2 (0 + 1) c2')) (own_ne hown2 HXS.out)
      have o2 := (((o1.kept (grown_setCell _ (x + 1) 0 (.int .i64 s)) (own_ne o1 HYS.out)).kept (grown_setCell _ (x + 1) 1 (.int .i64 o)) (own_ne o1 HYS.out)).kept (grown_setCell _ (x + 1) 2 (.slice q2 (0 + 1) c2')) (own_ne o1 HYS.out)).kept (grown_setCell _ (x + 1) 3 (.int .i64 g)) (own_ne o1 HYS.out)
      replace o2 : World.ownsRow _ w2.heap.size 5 1 (.slice q2 (0 + 1) c2') (0 + 1) (([] ++ [c]).map B) := o2
      refine bodyPost_ret (v := .tuple #[.agg #[.int .i64 s, .int .i64 o, .slice q2 (0 + 1) c2', .int .i64 g], .int .i64 0]) (by simp [results, Try.results40, go_sem, e0, e1, e2, e3]) rfl ⟨q2, c2', rfl, (fun b' hb' => RefS.of_owns o2 (Nat.lt_of_lt_of_le hb' hbw2) (by omega)), ?_⟩
      exact grown4 gF (by rw [HX.out]; exact Nat.le_succ _) _ _ _ _
    | some x0 =>
      have hS := h.slc.below (below_of_grown (grown_trans gC k3)) (Nat.le_refl _)
      have hsrc1 : (all.map B).length = n * 1 := by simp [h.len]
      have hsrc2 : ∀ j u, (all.map B)[j]? = some u → (w2.alloc (.cells #[] 5)).cell? (x0.add j) = some u := by
        intro j u hu
        rcases hS with rfl | ⟨b', off, e, hb', hc⟩
        · simp at hu
        · cases e
          rw [List.getElem?_map] at hu
          by_cases hj : j < all.length
          · rw [List.getElem?_eq_getElem hj] at hu
            cases hu
            rw [Go.WideShapes.add_plain]
            exact hc j hj
          · rw [List.getElem?_eq_none (by omega)] at hu
            cases hu
      have h63 : 0 + n ≤ maxLen ∧ (0 + n) * 1 ≤ 140737488355328 ∧ n + 1 ≤ maxLen ∧ (n + 1) * 1 ≤ 140737488355328 := ⟨by unfold maxLen; omega, by omega, by unfold maxLen; omega, by omega⟩
      have H63 := Lib.hid h63
      have HS1 := Lib.hid hsrc1
      have HS2 := Lib.hid hsrc2
      clear hsrc1 hsrc2 h63 hS
      go_wp2_with (at_builtin; first
        | (refine wpList_append_own_at _ rfl _ _ 23 rfl w2.heap.size 5 i0 (.int .u8 0) 1 1 Try.underlying23 hi0 hz0 hz1 hz2 rfl (by decide) _ 0 [] rfl HM.out x0 n cap (all.map B) rfl HS1.out HS2.out (by intro u hu; obtain ⟨c, _, rfl⟩ := List.mem_map.1 hu; rfl) H63.out.1 H63.out.2.1 hba ?_
           intro v1 wB hown1 hgr1 _ hb1
           rw [Nat.zero_add, List.nil_append] at hown1
           obtain ⟨q1, c1', rfl, _⟩ := own_slice hown1
           have k4 := grown_trans (grown_any (some w2.heap.size) k3) hgr1
           have F4 := F2.grown k4 (by simp; have := HXS.out; omega)
           have G4 := G2.grown k4 (by simp; have := HYS.out; omega)
           have HOW1 := Lib.hid hown1
           clear hown1
           have hb2' := k4.size)
        | (refine wpList_append_own_at _ rfl _ _ 23 rfl w2.heap.size 5 i0 (.int .u8 0) 1 1 Try.underlying23 hi0 hz0 hz1 hz2 rfl (by decide) _ _ _ rfl (HOW1.out.alloc _) ⟨wB.heap.size, 0, none⟩ 1 1 [.int .u8 c.toNat] rfl rfl (cell_one_new _ _ _) (by simp [Value.oneCell']) H63.out.2.2.1 H63.out.2.2.2 (by simp; omega) ?_
           intro v2 wC hown2 hgr2 _ hb2
           obtain ⟨q2, c2', rfl, _⟩ := own_slice hown2
           have k5 := grown_trans (World.grownBy_alloc wB (.cells #[.int .u8 c.toNat] 5) none) (grown_refl _ _)
           have F5 := F4.grown k5 (by simp)
           have G5 := G4.grown k5 (by simp)
           have hxq : some x ≠ (Value.slice q1 n c1').ownBlock := fun e => by have := (HOW1.out.lt x e.symm).1; have := HXS.out; omega
           have hyq : some (x + 1) ≠ (Value.slice q1 n c1').ownBlock := fun e => by have := (HOW1.out.lt (x + 1) e.symm).1; have := HYS.out; omega
           have F6 := F5.grown hgr2 hxq
           have G6 := G5.grown hgr2 hyq
           have hgr3 : (wB.alloc (.cells #[.int .u8 c.toNat] 5)).grownBy wC (Value.slice q1 n c1').ownBlock := hgr2
           have gE := grown_step (grown_step (grown_step gC k4 (fun r e => by cases e; exact gC.size)) k5 (fun r e => by cases e)) hgr3 (fun r e => Nat.le_trans gC.size (HOW1.out.lt r e).1)
           clear hgr2 hb2
           have y0 := F6.c0
           have y1 := F6.c1
           have y2 := F6.c2
           have y3 := F6.c3
           have y4 := F6.free 2
           have u0 := G6.c0
           have u1 := G6.c1
           have u2 := G6.c2
           have u3 := G6.c3
           have v0 := G6.free 0
           have v1 := G6.free 1
           have v2 := G6.free 2
           have v3 := G6.free 3))
      have G7 := G6.grown (grown_setCell wC x 2 (.slice q2 (n + 1) c2')) (by simp)
      have P := G7.put s o q2 (n + 1) c2' g
      have e0 := P.c0
      have e1 := P.c1
      have e2 := P.c2
      have e3 := P.c3
      have gF := grown_setNew gE (b := x) (by rw [HX.out]; exact Nat.le_refl _) 2 (.slice q2 (n + 1) c2')
      have o1 := hown2.kept (grown_setCell wC x 2 (.slice q2 (n + 1) c2')) (own_ne hown2 HXS.out)
      have o2 := (((o1.kept (grown_setCell _ (x + 1) 0 (.int .i64 s)) (own_ne o1 HYS.out)).kept (grown_setCell _ (x + 1) 1 (.int .i64 o)) (own_ne o1 HYS.out)).kept (grown_setCell _ (x + 1) 2 (.slice q2 (n + 1) c2')) (own_ne o1 HYS.out)).kept (grown_setCell _ (x + 1) 3 (.int .i64 g)) (own_ne o1 HYS.out)
      rw [show all.map B ++ [Value.int .u8 c.toNat] = (all ++ [c]).map B by simp [B]] at o2
      refine bodyPost_ret (v := .tuple #[.agg #[.int .i64 s, .int .i64 o, .slice q2 (n + 1) c2', .int .i64 g], .int .i64 0]) (by simp [results, Try.results40, go_sem, e0, e1, e2, e3]) rfl ⟨q2, c2', rfl, (fun b' hb' => RefS.of_owns o2 (Nat.lt_of_lt_of_le hb' hbw2) (by omega)), ?_⟩
      exact grown4 gF (by rw [HX.out]; exact Nat.le_succ _) _ _ _ _
end Go.Proofs.Ytadoobkieehajaa
