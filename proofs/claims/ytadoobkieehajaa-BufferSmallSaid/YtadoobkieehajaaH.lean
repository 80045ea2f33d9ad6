/- The contract of Bytes. -/
import Derived.Test.YtadoobkieehajaaG
import Derived.RangeFuncNested
namespace Go.Proofs.Ytadoobkieehajaa
open Go.RowKit Go.Shelf

attribute [local go_sem] Oper.semAt_some

theorem Try.info5 : (Try.prog.info? 5).map (fun i => (i.zero, i.size, i.bytes)) = some (some (.int .u8 0), 1, 1) := by kernel_rfl

/-- A byte as a value. -/
abbrev B (c : UInt8) : Value := .int .u8 c.toNat

theorem bytes_nil (w : World) :
    Calls Try.prog 15 #[.pointer none] w fun e w' => e = .returned (.slice none 0 0) ∧ ∃ m, w' = w.drewN m := by
  go_enter Try.func15, Try.ntmps15
  go_wp2_with fail
  refine (none_nil _).mono ?_
  rintro e w1 ⟨rfl, m1, rfl⟩
  go_wp2_with fail
  go_ret
  exact ⟨rfl, _, rfl⟩

set_option maxRecDepth 100000 in
set_option maxHeartbeats 1000000 in
theorem bytes_any (a : Nat) {s o l} (w : World) (h : IsBuf w a s o l) :
    Calls Try.prog 15 #[.pointer (some ⟨a, 0, none⟩)] w fun e w' => ∃ g cap, e = .returned (.slice (some ⟨g, 0, none⟩) l.length cap) ∧ w'.ownsRow w.heap.size 5 1 (.slice (some ⟨g, 0, none⟩) l.length cap) l.length (l.map B) ∧ w.grownBy w' none := by
  obtain ⟨i0, hi, hz0, hz1, hz2⟩ := info_parts Try.info5
  have hfit := h.fits
  have hhi := h.hi
  have ha := h.lt
  refine (callsIn_wide (n := 5)).1 ?_
  refine callsIn_of_wp_marks Try.func15 rfl trivial ?_ rfl
  simp only [Try.ntmps15, List.size_toArray, List.length_cons, List.length_nil, Nat.reduceAdd, Nat.reduceSub, Array.replicate_succ, Array.replicate_zero, List.push_toArray, List.append_toArray, List.nil_append, List.cons_append]
  gi_wp2_with fail
  refine ⟨trivial, (callsIn_wide.2 (none_no _ _ h)).mono ?_⟩
  rintro e w1 ⟨rfl, m1, rfl⟩
  have h1 := h.drewN m1
  have hsz : (w.drewN m1).heap.size = w.heap.size := by rw [World.heap_drewN]
  have hB := below_drewN (Below.refl w.heap.size w) m1
  generalize w.drewN m1 = W at h1 hsz hB ⊢
  obtain ⟨r, f, hr, hf, x⟩ := h1.ex
  have hch := hr.cheld
  clear x hr
  have HSZ := Lib.hid hsz
  clear hsz
  gi_wp2_with (gi_at_make; refine wpListIn_make_own _ rfl _ _ 23 rfl w.heap.size 5 i0 (.int .u8 0) 1 Try.underlying23 hi hz0 hz1 _ _ _ l.length rfl rfl rfl (by rw [hz2]; omega) (by unfold maxLen; omega) (by rw [HSZ.out]; exact Nat.le_refl _) ?_; intro w2 hown hg2; clear hch)
  have hB2 : Below w.heap.size w w2 := hB.grown hg2 (by rw [HSZ.out]; exact Nat.le_refl _) (fun k e => by cases e)
  have h2 := h1.grown hg2 (by simp)
  have hle2 : w.heap.size ≤ w2.heap.size := hB2.size
  have bO := Boxed.new w2 23 (.slice (some ⟨W.heap.size, 0, none⟩) 0 l.length)
  refine ⟨trivial, (callsIn_wide.2 (all_in _ _ _)).mono ?_⟩
  rintro e w3 ⟨rfl, rfl⟩
  gi_wp2_with fail
  have hB3 : Below w.heap.size w (((w2.alloc (.cells #[.slice (some ⟨W.heap.size, 0, none⟩) 0 l.length] 23)).alloc (.cells #[.pointer (some ⟨a, 0, none⟩)] 25)).alloc (.cells #[.int .i64 0] 3)) :=
    ((hB2.alloc hle2 _).alloc (by simp; omega) _).alloc (by simp; omega) _
  have hbb : Boxed (((w2.alloc (.cells #[.slice (some ⟨W.heap.size, 0, none⟩) 0 l.length] 23)).alloc (.cells #[.pointer (some ⟨a, 0, none⟩)] 25)).alloc (.cells #[.int .i64 0] 3)) (w2.heap.size + 1) 25 (.pointer (some ⟨a, 0, none⟩)) := by
    have := (Boxed.new (w2.alloc (.cells #[.slice (some ⟨W.heap.size, 0, none⟩) 0 l.length] 23)) 25 (.pointer (some ⟨a, 0, none⟩))).alloc (.cells #[.int .i64 0] 3)
    rwa [World.size_alloc] at this
  have hbf : Boxed (((w2.alloc (.cells #[.slice (some ⟨W.heap.size, 0, none⟩) 0 l.length] 23)).alloc (.cells #[.pointer (some ⟨a, 0, none⟩)] 25)).alloc (.cells #[.int .i64 0] 3)) (w2.heap.size + 1 + 1) 3 (.int .i64 0) := by
    have := Boxed.new ((w2.alloc (.cells #[.slice (some ⟨W.heap.size, 0, none⟩) 0 l.length] 23)).alloc (.cells #[.pointer (some ⟨a, 0, none⟩)] 25)) 3 (.int .i64 0)
    rwa [World.size_alloc, World.size_alloc] at this
  have h3 := ((h2.grown (World.grownBy_alloc _ (.cells #[.slice (some ⟨W.heap.size, 0, none⟩) 0 l.length] 23) none) (by simp)).grown (World.grownBy_alloc _ (.cells #[.pointer (some ⟨a, 0, none⟩)] 25) none) (by simp)).grown (World.grownBy_alloc _ (.cells #[.int .i64 0] 3) none) (by simp)
  have hown3 := ((hown.alloc (.cells #[.slice (some ⟨W.heap.size, 0, none⟩) 0 l.length] 23)).alloc (.cells #[.pointer (some ⟨a, 0, none⟩)] 25)).alloc (.cells #[.int .i64 0] 3)
  have bO3 := (bO.alloc (.cells #[.pointer (some ⟨a, 0, none⟩)] 25)).alloc (.cells #[.int .i64 0] 3)
  have hsz3 : (((w2.alloc (.cells #[.slice (some ⟨W.heap.size, 0, none⟩) 0 l.length] 23)).alloc (.cells #[.pointer (some ⟨a, 0, none⟩)] 25)).alloc (.cells #[.int .i64 0] 3)).heap.size = w2.heap.size + 3 := by simp
  clear bO
  generalize ((w2.alloc (.cells #[.slice (some ⟨W.heap.size, 0, none⟩) 0 l.length] 23)).alloc (.cells #[.pointer (some ⟨a, 0, none⟩)] 25)).alloc (.cells #[.int .i64 0] 3) = w3 at hB3 hbb hbf h3 hown3 bO3 hsz3 ⊢
  refine wpIn_rangeFunc_ownG rfl (by decide) (gf := 37) (lb := #[.pointer (some ⟨w2.heap.size + 1 + 1, 0, none⟩), .pointer (some ⟨w2.heap.size + 1, 0, none⟩)]) rfl trivial (enters_of Try.func37 (by kernel_rfl) rfl)
    (all_stops _ _ _ a 0 w3 (Nat.zero_le _) (by omega) (by omega) (by omega) hbf.cell hbb.cell h3) Kp2.trans (kp2_b (by omega) (by omega)) (Below.refl _ _) (fun _ => rfl)
    (fun pre X => (∃ v, Boxed X w2.heap.size 23 v ∧ X.ownsRow w.heap.size 5 1 v pre.length (pre.map fun x => B x.2) ∧ ∃ g cap, v = .slice (some ⟨g, 0, none⟩) pre.length cap) ∧ (Boxed X (w2.heap.size + 1) 25 (.pointer (some ⟨a, 0, none⟩)) ∧ Below w.heap.size w X))
    (fun _ _ _ => False)
    (OwnFrom.and (Own.from (holdsRow_own w.heap.size w2.heap.size 23 5 1 (fun pre : List (Nat × UInt8) => pre.length) (fun pre => pre.map fun x => B x.2) (fun pre v => ∃ g cap, v = .slice (some ⟨g, 0, none⟩) pre.length cap)) _) (OwnFrom.and (Own.from (boxed_own _ _ _) _) (ownFrom_below (Nat.le_refl _) (by omega))))
    (fun _ _ _ _ _ hs _ _ => hs)
    ⟨⟨_, bO3, hown3, _, _, rfl⟩, hbb, hB3⟩
    (fun x => { tmps := #[.pointer (some ⟨a, 0, none⟩), undef, .slice none 0 0, .pointer (some ⟨w2.heap.size, 0, none⟩), undef, .int .u8 x.2.toNat, .pointer (some ⟨a, 0, none⟩), .bool false, .pointer (some ⟨a, 0, none⟩), .pointer (some ⟨a, 0, none⟩), .pointer (some ⟨a, 258, none⟩), .int .i64 l.length, .slice (some ⟨W.heap.size, 0, none⟩) 0 l.length, .pointer (some ⟨a, 0, none⟩), .func (.func 37) #[] #[.pointer (some ⟨w2.heap.size + 1 + 1, 0, none⟩), .pointer (some ⟨w2.heap.size + 1, 0, none⟩)], .int .i64 x.1, .int .u8 x.2.toNat, undef, undef, undef, undef, undef], defers := [] }) ?assign ?body ?done ?stop
  case assign =>
    intro lr x X K hK
    dsimp only [enc2]
    gi_wp2
    exact hK
  case body =>
    rintro lr pre x X ⟨⟨v, hv, hrow, hg⟩, hbx, hBX⟩ hlt
    have hc := hv.cell
    gi_wp2_with (gi_at_builtin; refine wpListIn_append_own _ rfl _ _ 23 rfl w.heap.size 5 i0 (.int .u8 0) 1 1 Try.underlying23 hi hz0 hz1 hz2 rfl (by decide) _ _ _ rfl (hrow.alloc _) ⟨X.heap.size, 0, none⟩ 1 1 [.int .u8 x.2.toNat] rfl rfl (cell_one_new _ _ _) (by simp [Value.oneCell']) (by unfold maxLen; omega) (by omega) (by have := hBX.size; simp; omega) ?_; intro v' w1 hown' hgrow _; obtain ⟨g', cap', rfl⟩ := ownsRow_succ hown'; obtain ⟨hv1, hv2, hr2, hk2, hb2⟩ := hv.appended (by decide) hrow hBX.size hle2 hown' hgrow; have hc1 := hv1.cell; have hf1 := hv1.frozen)
    have hbx1 := ((hbx.alloc (.cells #[.int .u8 x.2.toNat] 5)).kept hgrow (hbx.not_row (by decide) hrow)).kept (grownBy_setCell' w1 w2.heap.size (.slice (some ⟨g', 0, none⟩) (pre.length + 1) cap')) (by simp)
    exact ⟨hk2.from _, ⟨hb2.block a ha, hbx1.trans (Eq.symm hbx)⟩, ⟨_, hv2, by simpa using hr2, g', cap', by simp⟩, hbx1, hBX.trans hb2⟩
  case done =>
    rintro D ys X hD rfl ⟨⟨v, hv, hrow, g, cap, rfl⟩, hbx, hBX⟩ hK
    have hc := hv.cell
    have el : (upto (item l 0) (l.length - 0)).length = l.length := by rw [upto_length]; rfl
    have em : (upto (item l 0) (l.length - 0)).map (fun x => B x.2) = l.map B := by
      apply List.ext_getElem
      · simp [upto]
      · intro i h1 h2
        have : i < l.length := by simpa using h2
        simp [upto, item, this]
    rw [el] at hc hrow
    rw [em] at hrow
    gi_wp2
    refine ⟨by simp, .inl ⟨_, _, rfl, run_takeDeferred hK, ?_⟩⟩
    refine ⟨_, results_tmp rfl _ _ _, g, cap, rfl, ownsRow_putObj hrow _ hK rfl, ?_⟩
    exact grown_of_below _ (hBX.trans (belowK_b (w := w3) (n₀ := w.heap.size) (by omega) X D _ _ hD hK rfl rfl))
  case stop =>
    rintro D c pre X _ _ hh _
    exact hh.elim
end Go.Proofs.Ytadoobkieehajaa
