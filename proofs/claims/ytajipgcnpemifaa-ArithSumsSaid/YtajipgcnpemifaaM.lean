/- The contract of the list of laws. -/
import Derived.Test.YtajipgcnpemifaaL
namespace Go.Proofs.Ytajipgcnpemifaa
open Go.RowKit Ieee

theorem huge_run (w : World) : (binOp .mul 24 (.float .f64 7598952565167317594) (.float .f64 7598952565167317594)).run Try.prog w = .ok (.float .f64 9218868437227405312) w :=
  run_float_arith w .mul 24 .f64 _ _ _ (by kernel_rfl)

section
variable {P : Program} {L : Act → World → Prop}
theorem mix_free_k {c : Nat → World → Prop} {a : Act} {w : World} {l : List Oper} {i : Nat} {o : Oper} {S : List (Nat × (Option Nat ⊕ List Nat))} (h0 : l[i]? = some o)
    (h : ∀ K : Act → Prop, (∀ a, wpMix P l.toArray c L (pickK l.toArray S) a w → K a) → if Region.wanted o (yielded l.toArray a.tmps) then ∃ v, (∀ w', True → lateUpon w' v ((execOp a.eval o).run P w')) ∧ K (a.put o.dst v) else K (a.put o.dst undef)) :
    wpMix P l.toArray c L (pickK l.toArray ((i, .inl none) :: S)) a w := by
  rw [pickK_cons (by rw [List.getElem?_toArray]; exact h0)]
  exact mix_free h
theorem mix_val_k {c : Nat → World → Prop} {a : Act} {w : World} {l : List Oper} {i : Nat} {o : Oper} {k : Nat} {S : List (Nat × (Option Nat ⊕ List Nat))} (h0 : l[i]? = some o) (v : Value) (hw : Region.wanted o (yielded l.toArray a.tmps) = true)
    (h : ∀ w', c k w' → lateUpon w' v ((execOp a.eval o).run P w')) (hn : ∀ K : Act → Prop, (∀ a, wpMix P l.toArray c L (pickK l.toArray S) a w → K a) → K (a.put o.dst v)) : wpMix P l.toArray c L (pickK l.toArray ((i, .inl (some k)) :: S)) a w := by
  rw [pickK_cons (by rw [List.getElem?_toArray]; exact h0)]
  exact mix_val v hw h hn
theorem mix_step_k {c : Nat → World → Prop} {a : Act} {w : World} {l : List Oper} {i : Nat} {o : Oper} {ks : List Nat} {S : List (Nat × (Option Nat ⊕ List Nat))} (h0 : l[i]? = some o)
    (h : ∀ K : Act → World → Prop, (∀ a w, (∀ k ∈ ks, c k w) → wpMix P l.toArray c L (pickK l.toArray S) a w → K a w) → wpList P l.toArray (OnlyN fun _ a' w' => K a' w') [o] a w) (hC : ∀ k ∈ ks, c k w) : wpMix P l.toArray c L (pickK l.toArray ((i, .inr ks) :: S)) a w := by
  rw [pickK_cons (by rw [List.getElem?_toArray]; exact h0)]
  exact mix_step h hC
theorem mix_nil_k {c : Nat → World → Prop} {a : Act} {w : World} {l : List Oper} (h : L a w) : wpMix P l.toArray c L (pickK l.toArray []) a w := h
end

/-- The cells of the list of laws. -/
def lawsV (b2 b3 b4 b5 b6 b7 : Nat) : Array Value := #[
    .func (.func 55) #[] #[.pointer (some ⟨b3, 0, none⟩)], .bool true, .float .f64 0, .float .f64 0, .float .f64 0,
    .func (.func 56) #[] #[.pointer (some ⟨b5, 0, none⟩)], .bool true, .float .f64 0, .float .f64 0, .float .f64 0,
    .func (.func 57) #[] #[], .bool true, .float .f64 0, .float .f64 0, .float .f64 0,
    .func (.func 58) #[] #[], .bool true, .float .f64 0, .float .f64 0, .float .f64 0,
    .func (.func 59) #[] #[.pointer (some ⟨b5, 0, none⟩)], .bool true, .float .f64 0, .float .f64 0, .float .f64 0,
    .func (.func 60) #[] #[.pointer (some ⟨b6, 0, none⟩)], .bool true, .float .f64 0, .float .f64 0, .float .f64 0,
    .func (.func 61) #[] #[.pointer (some ⟨b4, 0, none⟩)], .bool true, .float .f64 0, .float .f64 0, .float .f64 0,
    .func (.func 62) #[] #[.pointer (some ⟨b3, 0, none⟩)], .bool true, .float .f64 0, .float .f64 0, .float .f64 0,
    .func (.func 63) #[] #[.pointer (some ⟨b7, 0, none⟩)], .bool true, .float .f64 0, .float .f64 0, .float .f64 0,
    .func (.func 64) #[] #[.pointer (some ⟨b4, 0, none⟩), .pointer (some ⟨b3, 0, none⟩), .pointer (some ⟨b7, 0, none⟩)], .bool true, .float .f64 0, .float .f64 0, .float .f64 0,
    .func (.func 65) #[] #[], .bool true, .float .f64 0, .float .f64 0, .float .f64 0,
    .func (.func 66) #[] #[.pointer (some ⟨b7, 0, none⟩), .pointer (some ⟨b4, 0, none⟩)], .bool false, .float .f64 4607182418800017408, .float .f64 4607182418800017408, .float .f64 0,
    .func (.func 67) #[] #[.pointer (some ⟨b4, 0, none⟩)], .bool false, .float .f64 9218868437227405312, .float .f64 0, .float .f64 0,
    .func (.func 68) #[] #[.pointer (some ⟨b5, 0, none⟩)], .bool false, .float .f64 13830554455654793216, .float .f64 0, .float .f64 0,
    .func (.func 69) #[] #[.pointer (some ⟨b3, 0, none⟩)], .bool false, .float .f64 4607182418800017408, .float .f64 13830554455654793216, .float .f64 1,
    .func (.func 70) #[] #[.pointer (some ⟨b5, 0, none⟩)], .bool false, .float .f64 7598952565167317594, .float .f64 7598952565167317594, .float .f64 1614679632300144556,
    .func (.func 71) #[] #[.pointer (some ⟨b5, 0, none⟩), .pointer (some ⟨b3, 0, none⟩)], .bool false, .float .f64 7598952565167317594, .float .f64 7598952565167317594, .float .f64 16822324602022093402,
    .func (.func 72) #[] #[.pointer (some ⟨b4, 0, none⟩), .pointer (some ⟨b3, 0, none⟩)], .bool false, .float .f64 1, .float .f64 4607182418800017408, .float .f64 0,
    .func (.func 73) #[] #[.pointer (some ⟨b6, 0, none⟩)], .bool false, .float .f64 0, .float .f64 0, .float .f64 0,
    .func (.func 74) #[] #[.pointer (some ⟨b3, 0, none⟩)], .bool false, .float .f64 9223372036854775808, .float .f64 0, .float .f64 0,
    .func (.func 75) #[] #[.pointer (some ⟨b6, 0, none⟩), .pointer (some ⟨b5, 0, none⟩)], .bool false, .float .f64 4607182418800017408, .float .f64 0, .float .f64 0,
    .func (.func 76) #[] #[.pointer (some ⟨b2, 0, none⟩)], .bool true, .float .f64 0, .float .f64 0, .float .f64 0,
    .func (.func 77) #[] #[.pointer (some ⟨b5, 0, none⟩), .pointer (some ⟨b7, 0, none⟩)], .bool true, .float .f64 0, .float .f64 0, .float .f64 0,
    .func (.func 78) #[] #[.pointer (some ⟨b6, 0, none⟩), .pointer (some ⟨b5, 0, none⟩)], .bool false, .float .f64 1, .float .f64 1, .float .f64 0]

/-- The variables that the laws' sides capture. -/
structure Caps (w : World) (b2 b3 b4 b5 b6 b7 : Nat) : Prop where
  c2 : FlAt w b2
  c3 : FnAt w b3 50
  c4 : FnAt w b4 51
  c5 : FnAt w b5 52
  c6 : FnAt w b6 53
  c7 : FnAt w b7 54

theorem Caps.below {w w' : World} {b2 b3 b4 b5 b6 b7 : Nat} (h : Caps w b2 b3 b4 b5 b6 b7) (hB : Below w.heap.size w w') : Caps w' b2 b3 b4 b5 b6 b7 :=
  ⟨h.c2.below hB, h.c3.below hB, h.c4.below hB, h.c5.below hB, h.c6.below hB, h.c7.below hB⟩

theorem fn_new (w : World) (F : Nat) (t : TypeId) : FnAt (w.alloc (.cells #[.func (.func F) #[] #[]] t)) w.heap.size F :=
  ⟨by simp only [World.cell?, heap_new]; rfl, by rw [size_new]; omega⟩
theorem fl_new (w : World) (t : TypeId) : FlAt (w.alloc (.cells #[.float .f64 9218868437227405312] t)) w.heap.size :=
  ⟨by simp only [World.cell?, heap_new]; rfl, by rw [size_new]; omega⟩

def capsW (w : World) : World := (((((w.alloc (.cells #[.float .f64 9218868437227405312] 24)).alloc (.cells #[.func (.func 50) #[] #[]] 56)).alloc (.cells #[.func (.func 51) #[] #[]] 56)).alloc (.cells #[.func (.func 52) #[] #[]] 56)).alloc (.cells #[.func (.func 53) #[] #[]] 56)).alloc (.cells #[.func (.func 54) #[] #[]] 50)

theorem caps_new (w : World) : Caps (capsW w) w.heap.size (w.heap.size + 1) (w.heap.size + 1 + 1) (w.heap.size + 1 + 1 + 1) (w.heap.size + 1 + 1 + 1 + 1) (w.heap.size + 1 + 1 + 1 + 1 + 1) ∧ Below w.heap.size w (capsW w) := by
  unfold capsW
  have n2 := fl_new w 24
  have B2 : Below w.heap.size w (w.alloc (.cells #[.float .f64 9218868437227405312] 24)) := (Below.refl _ _).alloc (Nat.le_refl _) _
  have s2 := size_new w (.cells #[.float .f64 9218868437227405312] 24)
  generalize w.alloc (.cells #[.float .f64 9218868437227405312] 24) = w2 at n2 B2 s2 ⊢
  have n3 := fn_new w2 50 56
  have A3 : Below w2.heap.size w2 (w2.alloc (.cells #[.func (.func 50) #[] #[]] 56)) := (Below.refl _ _).alloc (Nat.le_refl _) _
  have s3 := size_new w2 (.cells #[.func (.func 50) #[] #[]] 56)
  replace n2 := n2.below A3
  replace B2 := B2.trans (A3.mono B2.size)
  generalize w2.alloc (.cells #[.func (.func 50) #[] #[]] 56) = w3 at n2 n3 B2 s3 ⊢
  clear A3
  have n4 := fn_new w3 51 56
  have A3 : Below w3.heap.size w3 (w3.alloc (.cells #[.func (.func 51) #[] #[]] 56)) := (Below.refl _ _).alloc (Nat.le_refl _) _
  have s4 := size_new w3 (.cells #[.func (.func 51) #[] #[]] 56)
  replace n2 := n2.below A3
  replace n3 := n3.below A3
  replace B2 := B2.trans (A3.mono B2.size)
  generalize w3.alloc (.cells #[.func (.func 51) #[] #[]] 56) = w4 at n2 n3 n4 B2 s4 ⊢
  clear A3
  have n5 := fn_new w4 52 56
  have A3 : Below w4.heap.size w4 (w4.alloc (.cells #[.func (.func 52) #[] #[]] 56)) := (Below.refl _ _).alloc (Nat.le_refl _) _
  have s5 := size_new w4 (.cells #[.func (.func 52) #[] #[]] 56)
  replace n2 := n2.below A3
  replace n3 := n3.below A3
  replace n4 := n4.below A3
  replace B2 := B2.trans (A3.mono B2.size)
  generalize w4.alloc (.cells #[.func (.func 52) #[] #[]] 56) = w5 at n2 n3 n4 n5 B2 s5 ⊢
  clear A3
  have n6 := fn_new w5 53 56
  have A3 : Below w5.heap.size w5 (w5.alloc (.cells #[.func (.func 53) #[] #[]] 56)) := (Below.refl _ _).alloc (Nat.le_refl _) _
  have s6 := size_new w5 (.cells #[.func (.func 53) #[] #[]] 56)
  replace n2 := n2.below A3
  replace n3 := n3.below A3
  replace n4 := n4.below A3
  replace n5 := n5.below A3
  replace B2 := B2.trans (A3.mono B2.size)
  generalize w5.alloc (.cells #[.func (.func 53) #[] #[]] 56) = w6 at n2 n3 n4 n5 n6 B2 s6 ⊢
  clear A3
  have n7 := fn_new w6 54 50
  have A3 : Below w6.heap.size w6 (w6.alloc (.cells #[.func (.func 54) #[] #[]] 50)) := (Below.refl _ _).alloc (Nat.le_refl _) _
  replace n2 := n2.below A3
  replace n3 := n3.below A3
  replace n4 := n4.below A3
  replace n5 := n5.below A3
  replace n6 := n6.below A3
  replace B2 := B2.trans (A3.mono B2.size)
  rw [← s2, ← s3, ← s4, ← s5, ← s6]
  exact ⟨⟨n2, n3, n4, n5, n6, n7⟩, B2⟩

/-- The list of laws that was made in a world of n blocks. -/
structure LawsAt (n : Nat) (w : World) : Prop where
  cells : w.heap[n + 6]? = some (.cells (lawsV n (n + 1) (n + 1 + 1) (n + 1 + 1 + 1) (n + 1 + 1 + 1 + 1) (n + 1 + 1 + 1 + 1 + 1)) 68)
  caps : Caps w n (n + 1) (n + 1 + 1) (n + 1 + 1 + 1) (n + 1 + 1 + 1 + 1) (n + 1 + 1 + 1 + 1 + 1)

theorem capsW_size (w : World) : (capsW w).heap.size = w.heap.size + 6 := by unfold capsW; simp only [size_new]

set_option maxRecDepth 100000 in
set_option maxHeartbeats 8000000 in
theorem laws_any (w : World) :
    Calls Try.prog 36 #[] w fun e w' => e = .returned (.slice (some ⟨w.heap.size + 6, 0, none⟩) 24 24) ∧ LawsAt w.heap.size w' ∧ Below w.heap.size w w' := by
  obtain ⟨hC, hB⟩ := caps_new w
  have hz := capsW_size w
  unfold capsW at hC hB hz
  have Hz := Lib.hid hz
  clear hz
  have h := huge_run
  go_enter Try.func36, Try.ntmps36
  go_wp2_with fail
  clear h
  generalize (((((w.alloc (.cells #[.float .f64 9218868437227405312] 24)).alloc (.cells #[.func (.func 50) #[] #[]] 56)).alloc (.cells #[.func (.func 51) #[] #[]] 56)).alloc (.cells #[.func (.func 52) #[] #[]] 56)).alloc (.cells #[.func (.func 53) #[] #[]] 56)).alloc (.cells #[.func (.func 54) #[] #[]] 50) = w0 at hC hB Hz ⊢
  generalize h7 : w.heap.size + 1 + 1 + 1 + 1 + 1 = b7 at hC ⊢
  generalize h6 : w.heap.size + 1 + 1 + 1 + 1 = b6 at hC ⊢
  generalize h5 : w.heap.size + 1 + 1 + 1 = b5 at hC ⊢
  generalize h4 : w.heap.size + 1 + 1 = b4 at hC ⊢
  generalize h3 : w.heap.size + 1 = b3 at hC ⊢
  have H7 := Lib.hid h7
  clear h7
  have H6 := Lib.hid h6
  clear h6
  have H5 := Lib.hid h5
  clear h5
  have H4 := Lib.hid h4
  clear h4
  have H3 := Lib.hid h3
  clear h3
  obtain ⟨b2, hb2⟩ : ∃ b2, b2 = w.heap.size := ⟨_, rfl⟩
  rw [← hb2] at hC
  rw [← hb2]
  have Hb := Lib.hid hb2
  clear hb2
  refine region_mix [(0, .inl none), (1, .inl none), (2, .inl none), (3, .inl none), (4, .inl none), (5, .inl none), (6, .inl none), (7, .inl none), (8, .inl none), (9, .inl none), (10, .inl none), (11, .inl none), (12, .inl none), (13, .inl none), (14, .inl none), (15, .inl none), (16, .inl none), (17, .inl none), (18, .inl none), (19, .inl none), (20, .inl none), (21, .inl none), (22, .inl none), (23, .inl none), (24, .inl none), (25, .inl none), (26, .inl none), (27, .inl none), (28, .inl none), (29, .inl none), (30, .inl none), (31, .inl none), (32, .inl none), (33, .inl none), (34, .inl (some 0)), (35, .inl none), (36, .inl none), (37, .inl none), (38, .inl none), (39, .inl none), (40, .inl none), (41, .inl none), (42, .inl none), (43, .inl none), (44, .inl none), (45, .inl none), (46, .inl none), (47, .inl none), (48, .inl none), (49, .inl none), (50, .inl none), (51, .inl none), (52, .inl none), (53, .inl none), (54, .inl none), (55, .inl none), (59, .inl none), (60, .inl none), (61, .inl none), (62, .inl none), (63, .inl none), (64, .inl none), (65, .inl none), (66, .inl none), (67, .inl none), (68, .inl none), (69, .inl none), (70, .inl none), (56, .inr [0]), (57, .inl none), (58, .inl none), (71, .inr [0]), (72, .inl none)]
    (fun _ W => FlAt W b2) (by kernel_rfl) (by kernel_rfl) (fun _ => hC.c2.below (below_drewN' (Below.refl _ _) 1)) ?_
  replace hB := below_drewN' hB 1
  replace hC := hC.below (below_drewN' (Below.refl _ _) 1)
  generalize hw0 : w0.drewN 1 = w1 at hB hC ⊢
  have Hw := Lib.hid hw0
  clear hw0
  refine mix_free_k (by rfl) (fun K hK => ?_)
  go_simp
  refine hK _ ?_
  clear hK K
  refine mix_free_k (by rfl) (fun K hK => ?_)
  go_simp
  refine hK _ ?_
  clear hK K
  refine mix_free_k (by rfl) (fun K hK => ?_)
  go_simp
  refine hK _ ?_
  clear hK K
  refine mix_free_k (by rfl) (fun K hK => ?_)
  go_simp
  refine hK _ ?_
  clear hK K
  refine mix_free_k (by rfl) (fun K hK => ?_)
  go_simp
  refine hK _ ?_
  clear hK K
  refine mix_free_k (by rfl) (fun K hK => ?_)
  go_simp
  refine hK _ ?_
  clear hK K
  refine mix_free_k (by rfl) (fun K hK => ?_)
  go_simp
  refine hK _ ?_
  clear hK K
  refine mix_free_k (by rfl) (fun K hK => ?_)
  go_simp
  refine hK _ ?_
  clear hK K
  refine mix_free_k (by rfl) (fun K hK => ?_)
  go_simp
  refine hK _ ?_
  clear hK K
  refine mix_free_k (by rfl) (fun K hK => ?_)
  go_simp
  refine hK _ ?_
  clear hK K
  refine mix_free_k (by rfl) (fun K hK => ?_)
  go_simp
  refine hK _ ?_
  clear hK K
  refine mix_free_k (by rfl) (fun K hK => ?_)
  go_simp
  refine hK _ ?_
  clear hK K
  refine mix_free_k (by rfl) (fun K hK => ?_)
  go_simp
  refine hK _ ?_
  clear hK K
  refine mix_free_k (by rfl) (fun K hK => ?_)
  go_simp
  refine hK _ ?_
  clear hK K
  refine mix_free_k (by rfl) (fun K hK => ?_)
  go_simp
  refine hK _ ?_
  clear hK K
  refine mix_free_k (by rfl) (fun K hK => ?_)
  go_simp
  refine hK _ ?_
  clear hK K
  refine mix_free_k (by rfl) (fun K hK => ?_)
  go_simp
  refine hK _ ?_
  clear hK K
  refine mix_free_k (by rfl) (fun K hK => ?_)
  go_simp
  refine hK _ ?_
  clear hK K
  refine mix_free_k (by rfl) (fun K hK => ?_)
  go_simp
  refine hK _ ?_
  clear hK K
  refine mix_free_k (by rfl) (fun K hK => ?_)
  go_simp
  refine hK _ ?_
  clear hK K
  refine mix_free_k (by rfl) (fun K hK => ?_)
  go_simp
  refine hK _ ?_
  clear hK K
  refine mix_free_k (by rfl) (fun K hK => ?_)
  go_simp
  refine hK _ ?_
  clear hK K
  refine mix_free_k (by rfl) (fun K hK => ?_)
  go_simp
  refine hK _ ?_
  clear hK K
  refine mix_free_k (by rfl) (fun K hK => ?_)
  go_simp
  refine hK _ ?_
  clear hK K
  refine mix_free_k (by rfl) (fun K hK => ?_)
  go_simp
  refine hK _ ?_
  clear hK K
  refine mix_free_k (by rfl) (fun K hK => ?_)
  go_simp
  refine hK _ ?_
  clear hK K
  refine mix_free_k (by rfl) (fun K hK => ?_)
  go_simp
  refine hK _ ?_
  clear hK K
  refine mix_free_k (by rfl) (fun K hK => ?_)
  go_simp
  refine hK _ ?_
  clear hK K
  refine mix_free_k (by rfl) (fun K hK => ?_)
  go_simp
  refine hK _ ?_
  clear hK K
  refine mix_free_k (by rfl) (fun K hK => ?_)
  go_simp
  refine hK _ ?_
  clear hK K
  refine mix_free_k (by rfl) (fun K hK => ?_)
  go_simp
  refine hK _ ?_
  clear hK K
  refine mix_free_k (by rfl) (fun K hK => ?_)
  go_simp
  refine hK _ ?_
  clear hK K
  refine mix_free_k (by rfl) (fun K hK => ?_)
  go_simp
  refine hK _ ?_
  clear hK K
  refine mix_free_k (by rfl) (fun K hK => ?_)
  go_simp
  refine hK _ ?_
  clear hK K
  refine mix_val_k (by rfl) (.float .f64 9218868437227405312) (by rfl) (fun w' hw' => ?_) (fun K hK => ?_)
  · have c := hw'.cell
    go_simp
  go_simp
  refine hK _ ?_
  clear hK K
  refine mix_free_k (by rfl) (fun K hK => ?_)
  go_simp
  refine hK _ ?_
  clear hK K
  refine mix_free_k (by rfl) (fun K hK => ?_)
  go_simp
  refine hK _ ?_
  clear hK K
  refine mix_free_k (by rfl) (fun K hK => ?_)
  go_simp
  refine hK _ ?_
  clear hK K
  refine mix_free_k (by rfl) (fun K hK => ?_)
  go_simp
  refine hK _ ?_
  clear hK K
  refine mix_free_k (by rfl) (fun K hK => ?_)
  go_simp
  refine hK _ ?_
  clear hK K
  refine mix_free_k (by rfl) (fun K hK => ?_)
  go_simp
  refine hK _ ?_
  clear hK K
  refine mix_free_k (by rfl) (fun K hK => ?_)
  go_simp
  refine hK _ ?_
  clear hK K
  refine mix_free_k (by rfl) (fun K hK => ?_)
  go_simp
  refine hK _ ?_
  clear hK K
  refine mix_free_k (by rfl) (fun K hK => ?_)
  go_simp
  refine hK _ ?_
  clear hK K
  refine mix_free_k (by rfl) (fun K hK => ?_)
  go_simp
  refine hK _ ?_
  clear hK K
  refine mix_free_k (by rfl) (fun K hK => ?_)
  go_simp
  refine hK _ ?_
  clear hK K
  refine mix_free_k (by rfl) (fun K hK => ?_)
  go_simp
  refine hK _ ?_
  clear hK K
  refine mix_free_k (by rfl) (fun K hK => ?_)
  go_simp
  refine hK _ ?_
  clear hK K
  refine mix_free_k (by rfl) (fun K hK => ?_)
  go_simp
  refine hK _ ?_
  clear hK K
  refine mix_free_k (by rfl) (fun K hK => ?_)
  go_simp
  refine hK _ ?_
  clear hK K
  refine mix_free_k (by rfl) (fun K hK => ?_)
  go_simp
  refine hK _ ?_
  clear hK K
  refine mix_free_k (by rfl) (fun K hK => ?_)
  go_simp
  refine hK _ ?_
  clear hK K
  refine mix_free_k (by rfl) (fun K hK => ?_)
  go_simp
  refine hK _ ?_
  clear hK K
  refine mix_free_k (by rfl) (fun K hK => ?_)
  go_simp
  refine hK _ ?_
  clear hK K
  refine mix_free_k (by rfl) (fun K hK => ?_)
  go_simp
  refine hK _ ?_
  clear hK K
  refine mix_free_k (by rfl) (fun K hK => ?_)
  go_simp
  refine hK _ ?_
  clear hK K
  refine mix_free_k (by rfl) (fun K hK => ?_)
  go_simp
  refine hK _ ?_
  clear hK K
  refine mix_free_k (by rfl) (fun K hK => ?_)
  go_simp
  refine hK _ ?_
  clear hK K
  refine mix_free_k (by rfl) (fun K hK => ?_)
  go_simp
  refine hK _ ?_
  clear hK K
  refine mix_free_k (by rfl) (fun K hK => ?_)
  go_simp
  refine hK _ ?_
  clear hK K
  refine mix_free_k (by rfl) (fun K hK => ?_)
  go_simp
  refine hK _ ?_
  clear hK K
  refine mix_free_k (by rfl) (fun K hK => ?_)
  go_simp
  refine hK _ ?_
  clear hK K
  refine mix_free_k (by rfl) (fun K hK => ?_)
  go_simp
  refine hK _ ?_
  clear hK K
  refine mix_free_k (by rfl) (fun K hK => ?_)
  go_simp
  refine hK _ ?_
  clear hK K
  refine mix_free_k (by rfl) (fun K hK => ?_)
  go_simp
  refine hK _ ?_
  clear hK K
  refine mix_free_k (by rfl) (fun K hK => ?_)
  go_simp
  refine hK _ ?_
  clear hK K
  refine mix_free_k (by rfl) (fun K hK => ?_)
  go_simp
  refine hK _ ?_
  clear hK K
  refine mix_free_k (by rfl) (fun K hK => ?_)
  go_simp
  refine hK _ ?_
  clear hK K
  refine mix_step_k (by rfl) (fun K hK => ?_) (fun _ _ => hC.c2)
  go_wp2_with fail
  refine (zero_any _).mono ?_
  rintro e _ ⟨rfl, rfl⟩
  go_wp2_with fail
  refine hK _ _ (fun _ _ => hC.c2) ?_
  clear hK K
  refine mix_free_k (by rfl) (fun K hK => ?_)
  go_simp
  refine hK _ ?_
  clear hK K
  refine mix_free_k (by rfl) (fun K hK => ?_)
  go_simp
  refine hK _ ?_
  clear hK K
  refine mix_step_k (by rfl) (fun K hK => ?_) (fun _ _ => hC.c2)
  go_wp2_with fail
  have A : ∀ o, Below w1.heap.size w1 (w1.alloc o) := fun o => (Below.refl _ _).alloc (Nat.le_refl _) _
  refine hK _ _ (fun _ _ => hC.c2.below (A _)) ?_
  clear hK K
  refine mix_free_k (by rfl) (fun K hK => ?_)
  go_simp
  refine hK _ ?_
  clear hK K
  refine mix_nil_k ?_
  go_wp2_with fail
  go_ret
  have e1 : w1.heap.size = w.heap.size + 6 := by rw [← Hw.out]; exact Hz.out
  have e2 := Hb.out
  have e3 := H3.out
  have e4 := H4.out
  have e5 := H5.out
  have e6 := H6.out
  have e7 := H7.out
  clear Hb H3 H4 H5 H6 H7 Hw Hz
  have n1 := heap_new w1 (.cells (lawsV b2 b3 b4 b5 b6 b7) 68)
  have C1 := hC.below (A (.cells (lawsV b2 b3 b4 b5 b6 b7) 68))
  have B1 := hB.trans ((A (.cells (lawsV b2 b3 b4 b5 b6 b7) 68)).mono hB.size)
  rw [e1] at n1
  subst e2 e3 e4 e5 e6 e7
  refine ⟨by rw [e1]; rfl, ⟨n1, C1⟩, B1⟩
end Go.Proofs.Ytajipgcnpemifaa
