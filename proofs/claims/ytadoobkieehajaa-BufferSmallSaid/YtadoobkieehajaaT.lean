/- The walk of BufferRoom. -/
import Derived.Test.YtadoobkieehajaaP
namespace Go.Proofs.Ytadoobkieehajaa
open Go.RowKit Go.Shelf

/-- What BufferRoom's closure sees: three boxes and the buffer. -/
structure RoomS (w : World) (base ba bb bc b s : Nat) (gone l : List UInt8) (c : UInt8) : Prop where
  all : ∃ ad n cap, n = (gone ++ l).length ∧ Boxed w ba 23 (.slice ad n cap) ∧ w.ownsRow base 5 1 (.slice ad n cap) n ((gone ++ l).map B)
  pb : Boxed w bb 25 (.pointer (some ⟨b, 0, none⟩))
  pc : Boxed w bc 5 (B c)
  buf : IsBuf w b s gone.length l

theorem owns_heap {w w' : World} {base e size n : Nat} {v : Value} {xs : List Value} (h : w.ownsRow base e size v n xs) (he : w'.heap = w.heap) : w'.ownsRow base e size v n xs := by
  unfold World.ownsRow
  rw [he]
  exact h

theorem own_ne {w : World} {base e size n x : Nat} {v : Value} {xs : List Value} (h : w.ownsRow base e size v n xs) (hx : x < base) : v.ownBlock = none ∨ v.ownBlock ≠ some x :=
  .inr fun e => by have := (h.lt x e).1; omega

def held (b : Nat) (w : World) : Nat := (intOf ((w.cell? ⟨b, 258, none⟩).getD undef)).toNat
theorem held_eq {w : World} {b s o : Nat} {l : List UInt8} (h : IsBuf w b s o l) : held b w = l.length := by
  obtain ⟨r, f, hr, hf, x⟩ := h.ex
  simp [held, hr.cheld, intOf]

set_option maxRecDepth 100000 in
set_option maxHeartbeats 1000000 in
theorem room1 (base ba bb bc b s : Nat) (gone l : List UInt8) (c : UInt8) (w w0 : World) (h : RoomS w base ba bb bc b s gone l c) (hd : ba < base ∧ bb < base ∧ bc < base ∧ b < base) (hbw : base ≤ w.heap.size)
    (h1 : ba ≠ bb) (h2 : ba ≠ bc) (h3 : bb ≠ bc) (h4 : ba ≠ b) (h5 : bb ≠ b) (h6 : bc ≠ b) (hs : gone.length + s < 2000) (hw0 : w0.heap.size ≤ base ∧ w0.heap.size ≤ ba ∧ w0.heap.size ≤ bb ∧ w0.heap.size ≤ bc ∧ w0.heap.size ≤ b) (hB : Below w0.heap.size w0 w) :
    Calls Try.prog 20 #[.pointer (some ⟨ba, 0, none⟩), .pointer (some ⟨bb, 0, none⟩), .pointer (some ⟨bc, 0, none⟩)] w fun e w' => e = .returned (.bool true) ∧ ∃ new c', RoomS w' base ba bb bc b s gone (l ++ new) c' ∧ (l ++ new).length = s ∧ Below w0.heap.size w0 w' ∧ base ≤ w'.heap.size := by
  obtain ⟨i0, hi0, hz0, hz1, hz2⟩ := info_parts Try.info5
  have hhi := h.buf.hi
  go_enter Try.func20, Try.ntmps20
  go_wp2_with fail
  go_loopw [3] (fun v wr => ∃ new c', v = .bool false ∧ RoomS wr base ba bb bc b s gone (l ++ new) c' ∧ Below w0.heap.size w0 wr ∧ base ≤ wr.heap.size)
    (fun _ wr => s - held b wr)
  case atStart => exact ⟨[], c, rfl, by simpa using h, hB, hbw⟩
  case round =>
    obtain ⟨new, c', rfl, hR, hBr, hbr⟩ := hrel
    obtain ⟨⟨ad, n, cap, hn, hv, hrow⟩, hpb, hpc, hbuf⟩ := hR
    have hcv := hv.cell
    have hcb := hpb.cell
    have hcc := hpc.cell
    have hfc := hpc.frozen
    have hfit := hbuf.fits
    have hheld := Lib.hid (held_eq hbuf)
    have hn2 : n < 2000 := by rw [hn, List.length_append]; omega
    have hn2' : (n : Int) < 2000 := by omega
    generalize hl2 : l ++ new = l2 at hn hrow hbuf hfit
    have HN := Lib.hid hn
    have HL := Lib.hid hl2
    have HH := Lib.hid hn2
    clear hn hl2 hn2
    obtain ⟨c2, hc2⟩ : ∃ c2 : UInt8, ((c'.toNat : Int) * 5 + 3) % 256 = (c2.toNat : Int) := ⟨UInt8.ofNat ((c'.toNat * 5 + 3) % 256), by simp⟩
    by_cases hf : l2.length = s
    · have hf' : ((l2.length : Int) == s) = true := by simp; omega
      go_wp2_with fail
      refine (full_any _ _ hbuf).mono ?_
      rintro e w3 ⟨rfl, m3, rfl⟩
      replace hbuf := hbuf.drewN m3
      replace hv : Boxed (wr.drewN m3) ba 23 (.slice ad n cap) := by rw [Boxed, World.heap_drewN]; exact hv
      replace hpb : Boxed (wr.drewN m3) bb 25 (.pointer (some ⟨b, 0, none⟩)) := by rw [Boxed, World.heap_drewN]; exact hpb
      replace hpc : Boxed (wr.drewN m3) bc 5 (B c') := by rw [Boxed, World.heap_drewN]; exact hpc
      replace hrow := owns_heap (w' := wr.drewN m3) hrow (World.heap_drewN _ _)
      replace hBr := below_drewN hBr m3
      replace hbr : base ≤ (wr.drewN m3).heap.size := by rw [World.heap_drewN]; exact hbr
      generalize wr.drewN m3 = w3 at hbuf hv hpb hpc hrow hBr hbr ⊢
      clear hcv hcb hcc hfc
      have hcb := hpb.cell
      have hcc := hpc.cell
      go_wp2_with fail
      refine (full_any _ _ hbuf).mono ?_
      rintro e w4 ⟨rfl, m4, rfl⟩
      go_wp2_with fail
      refine (put_full _ _ _ (hbuf.drewN m4) hf).mono ?_
      rintro e w5 ⟨rfl, m5, rfl⟩
      go_wp2_with fail
      go_ret
      have e5 : (w3.drewN (m4 + m5)).heap = w3.heap := World.heap_drewN _ _
      refine ⟨rfl, new, c', ⟨?_, ?_, ?_, ?_⟩, ?_, ?_, ?_⟩
      · rw [HL.out]
        exact ⟨ad, n, cap, HN.out, by rw [Boxed, e5]; exact hv, owns_heap hrow e5⟩
      · rw [Boxed, e5]; exact hpb
      · rw [Boxed, e5]; exact hpc
      · rw [HL.out]; exact hbuf.drewN (m4 + m5)
      · rw [HL.out]; exact hf
      · exact below_drewN hBr (m4 + m5)
      · rw [e5]; exact hbr
    · have hf' : ((l2.length : Int) == s) = false := by simp; omega
      go_wp2_with fail
      refine (full_any _ _ hbuf).mono ?_
      rintro e w3 ⟨rfl, m3, rfl⟩
      go_wp2_with fail
      have e3 : (wr.drewN m3).heap = wr.heap := World.heap_drewN _ _
      have gs := grown_setCell (wr.drewN m3) bc 0 (.int .u8 c2.toNat)
      have hv3 : Boxed ((wr.drewN m3).setCell ⟨bc, 0, none⟩ (.int .u8 c2.toNat)) ba 23 (.slice ad n cap) := Boxed.other (by rw [Boxed, e3]; exact hv) h2 _
      have hpb3 : Boxed ((wr.drewN m3).setCell ⟨bc, 0, none⟩ (.int .u8 c2.toNat)) bb 25 (.pointer (some ⟨b, 0, none⟩)) := Boxed.other (by rw [Boxed, e3]; exact hpb) h3 _
      have hpc3 : Boxed ((wr.drewN m3).setCell ⟨bc, 0, none⟩ (.int .u8 c2.toNat)) bc 5 (.int .u8 c2.toNat) := Boxed.set _ (v := B c') (by rw [Boxed, e3]; exact hpc)
      have hrow3 := (owns_heap (w' := wr.drewN m3) hrow e3).kept gs (own_ne hrow hd.2.2.1)
      have hbuf3 := (hbuf.drewN m3).grown gs (by simp; omega)
      have hB3 := below_grown (below_drewN hBr m3) gs (below_drewN hBr m3).size hw0.2.2.2.1
      have hbr3 : base ≤ ((wr.drewN m3).setCell ⟨bc, 0, none⟩ (.int .u8 c2.toNat)).heap.size := Nat.le_trans (by rw [e3]; exact hbr) gs.size
      generalize (wr.drewN m3).setCell ⟨bc, 0, none⟩ (.int .u8 c2.toNat) = w3 at hv3 hpb3 hpc3 hrow3 hbuf3 hB3 hbr3 ⊢
      clear gs hv hpb hpc hrow hbuf hBr hbr hcv hcb hcc hfc e3
      refine (put_ok _ _ _ hbuf3 (by omega) (by omega)).mono ?_
      rintro e w4 ⟨rfl, hb4, g4⟩
      have hv4 := hv3.kept g4 (by simp; omega)
      have hpb4 := hpb3.kept g4 (by simp; omega)
      have hpc4 := hpc3.kept g4 (by simp; omega)
      have hrow4 := hrow3.kept g4 (own_ne hrow3 hd.2.2.2)
      have hB4 := below_grown hB3 g4 hB3.size hw0.2.2.2.2
      have hbr4 := Nat.le_trans hbr3 g4.size
      clear g4 hv3 hpb3 hpc3 hrow3 hbuf3 hB3 hbr3
      have hcv := hv4.cell
      have hcc := hpc4.cell
      have hfv := hv4.frozen
      have HD := Lib.hid hd
      have HW := Lib.hid hw0
      clear hd hw0
      go_wp2_with (at_builtin; refine wpList_append_own _ rfl _ _ 23 rfl base 5 i0 (.int .u8 0) 1 1 Try.underlying23 hi0 hz0 hz1 hz2 rfl (by decide) _ _ _ rfl (hrow4.alloc _) ⟨w4.heap.size, 0, none⟩ 1 1 [.int .u8 c2.toNat] rfl rfl (cell_one_new _ _ _) (by simp [Value.oneCell']) (by have := HH.out; unfold maxLen; omega) (by have := HH.out; omega) (by simp; omega) ?_; intro v' w5 hown' hgrow _; obtain ⟨g', cap', rfl⟩ := ownsRow_succ hown'; have hv1 := (hv4.alloc (.cells #[.int .u8 c2.toNat] 5)).kept hgrow (hv4.not_row (by decide) hrow4); have hc1 := hv1.cell; have hf1 := hv1.frozen)
      have hd := HD.out
      have hw0 := HW.out
      have gs := grown_setCell w5 ba 0 (.slice (some ⟨g', 0, none⟩) (n + 1) cap')
      have out : ∀ x, x < base → some x ≠ (Value.slice ad n cap).ownBlock := fun x hx e => by have := (hrow4.lt x e.symm).1; omega
      have hb6 := ((hb4.grown (World.grownBy_alloc w4 (.cells #[.int .u8 c2.toNat] 5) none) (by simp)).grown hgrow (out b hd.2.2.2)).grown gs (by simp; omega)
      have hpb6 := ((hpb4.alloc (.cells #[.int .u8 c2.toNat] 5)).kept hgrow (out bb hd.2.1)).kept gs (by simp; omega)
      have hpc6 := ((hpc4.alloc (.cells #[.int .u8 c2.toNat] 5)).kept hgrow (out bc hd.2.2.1)).kept gs (by simp; omega)
      have hv6 := hv1.set (.slice (some ⟨g', 0, none⟩) (n + 1) cap')
      have hr6 := hown'.kept gs (own_ne hown' hd.1)
      have hB5 := (hB4.alloc hB4.size (.cells #[.int .u8 c2.toNat] 5)).grown hgrow (hB4.alloc hB4.size (.cells #[.int .u8 c2.toNat] 5)).size (fun r e => by have := (hrow4.lt r e).1; omega)
      have hB6 := below_grown hB5 gs hB5.size hw0.2.1
      have hbr6 : base ≤ (w5.setCell ⟨ba, 0, none⟩ (.slice (some ⟨g', 0, none⟩) (n + 1) cap')).heap.size := Nat.le_trans (Nat.le_trans hbr4 (Nat.le_trans (by simp) hgrow.size)) gs.size
      have e1 : (gone ++ l2).map B ++ [.int .u8 c2.toNat] = (gone ++ (l ++ (new ++ [c2]))).map B := by rw [← List.append_assoc l, HL.out]; simp [B]
      rw [e1] at hr6
      refine ⟨⟨new ++ [c2], c2, rfl, ⟨⟨_, _, _, ?_, hv6, hr6⟩, hpb6, hpc6, ?_⟩, hB6, hbr6⟩, ?_⟩
      · rw [HN.out, ← List.append_assoc l, HL.out]
        simp only [List.length_append, List.length_cons, List.length_nil]
        omega
      · rw [← List.append_assoc l, HL.out]; exact hb6
      · rw [held_eq hb6, hheld.out, HL.out]
        simp only [List.length_append, List.length_cons, List.length_nil]
        omega
end Go.Proofs.Ytadoobkieehajaa
