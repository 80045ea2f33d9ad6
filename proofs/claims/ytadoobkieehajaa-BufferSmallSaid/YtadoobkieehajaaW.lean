/- The walk of BufferKeeps. -/
import Derived.Test.YtadoobkieehajaaT
import Derived.IntWalk
import Derived.Maps.AppendAt
import Derived.Deep.DeepCutAuto
namespace Go.Proofs.Ytadoobkieehajaa
open Go.RowKit Go.Shelf

theorem min500 (x : Nat) : ∃ M : Nat, M ≤ x ∧ M ≤ 500 ∧ (if (500 : Int) < (x : Int) then (500 : Int) else (x : Int)) = (M : Int) ∧ max (M : Int) 0 = M := by
  by_cases h : (500 : Int) < x
  · exact ⟨500, by omega, by omega, by simp [h], by omega⟩
  · exact ⟨x, by omega, by omega, by simp [h], by omega⟩

theorem own_slice {w : World} {base e size n : Nat} {v : Value} {xs : List Value} (h : w.ownsRow base e size v n xs) : ∃ ad cap, v = .slice ad n cap ∧ n ≤ cap := by
  rcases h.2 with ⟨rfl, rfl⟩ | ⟨g, cap, cur, rfl, _, _, hc, _⟩
  · exact ⟨none, 0, rfl, Nat.le_refl _⟩
  · exact ⟨_, cap, rfl, hc⟩

theorem drop_take_one (l : List UInt8) (j g : Nat) (hg : g ≤ j) (hj : j < l.length) : (l.take j).drop g ++ [l[j]] = (l.take (j + 1)).drop g := by
  rw [List.take_succ_eq_append_getElem hj, List.drop_append_of_le_length (by rw [List.length_take]; omega)]

theorem owns_cap' {w : World} {base n cap : Nat} {ad : Option Addr} {xs : List Value} (h : w.ownsRow base 5 1 (.slice ad n cap) n xs) : n ≤ cap := by
  obtain ⟨ad', cap', e, hc⟩ := own_slice h
  cases e
  exact hc

theorem take_more (l : List UInt8) (j g k : Nat) (h : g + k ≤ j) : (l.take g).map B ++ (((l.take j).drop g).take k).map B = (l.take (g + k)).map B := by
  rw [← List.map_append, List.drop_take, List.take_take, Nat.min_eq_left (by omega), ← List.take_add]

/-- What BufferKeeps knows in a round: the buffer, what was put (the first j bytes), what is gone (the first g of them). -/
structure KeepS (w : World) (base b s o : Nat) (l : List UInt8) (j g : Nat) (ap ag : Option Addr) (cp cg : Nat) : Prop where
  buf : IsBuf w b s (o + g) ((l.take j).drop g)
  put : w.ownsRow base 5 1 (.slice ap j cp) j ((l.take j).map B)
  gone : w.ownsRow base 5 1 (.slice ag g cg) g ((l.take g).map B)
  apart : ∀ x, (Value.slice ap j cp).ownBlock = some x → (Value.slice ag g cg).ownBlock ≠ some x
  size : base ≤ w.heap.size
  le : g ≤ j

theorem KeepS.grown {w w' : World} {base b s o : Nat} {l : List UInt8} {j g : Nat} {ap ag : Option Addr} {cp cg : Nat} (h : KeepS w base b s o l j g ap ag cp cg) (k : w.grownBy w' none) : KeepS w' base b s o l j g ap ag cp cg :=
  ⟨h.buf.grown k (by simp), h.put.kept k (Classical.em _), h.gone.kept k (Classical.em _), h.apart, Nat.le_trans h.size k.size, h.le⟩
theorem KeepS.heap {w w' : World} {base b s o : Nat} {l : List UInt8} {j g : Nat} {ap ag : Option Addr} {cp cg : Nat} (h : KeepS w base b s o l j g ap ag cp cg) (m : Nat) (k : w' = w.drewN m) : KeepS w' base b s o l j g ap ag cp cg := by
  subst k
  have e : (w.drewN m).heap = w.heap := World.heap_drewN _ _
  exact ⟨h.buf.drewN m, owns_heap h.put e, owns_heap h.gone e, h.apart, by rw [e]; exact h.size, h.le⟩

/-- k more are gone: they have been laid behind the others. -/
theorem KeepS.more {w w' : World} {base b s o : Nat} {l : List UInt8} {j g k : Nat} {ap ag : Option Addr} {cp cg : Nat} {v' : Value} (hb : b < base) (hk : g + k ≤ j) (hbuf : IsBuf w b s (o + g + k) (((l.take j).drop g).drop k))
    (hput : w.ownsRow base 5 1 (.slice ap j cp) j ((l.take j).map B)) (hgone : w.ownsRow base 5 1 (.slice ag g cg) g ((l.take g).map B))
    (hap : ∀ x, (Value.slice ap j cp).ownBlock = some x → (Value.slice ag g cg).ownBlock ≠ some x) (hsz : base ≤ w.heap.size)
    (hown : w'.ownsRow base 5 1 v' (g + k) ((l.take g).map B ++ (((l.take j).drop g).take k).map B)) (hgr : w.grownBy w' (Value.slice ag g cg).ownBlock)
    (hblk : v'.ownBlock = (Value.slice ag g cg).ownBlock ∨ v'.ownBlock = some w.heap.size) : ∃ ag' cg', v' = .slice ag' (g + k) cg' ∧ KeepS w' base b s o l j (g + k) ap ag' cp cg' := by
  obtain ⟨ag', cg', rfl, hc⟩ := own_slice hown
  have e1 : (Value.slice ap j cp).ownBlock = none ∨ (Value.slice ap j cp).ownBlock ≠ (Value.slice ag g cg).ownBlock := by
    cases hx : (Value.slice ap j cp).ownBlock with
    | none => exact .inl rfl
    | some x => exact .inr fun e => hap x hx e.symm
  refine ⟨ag', cg', rfl, ?_, hput.kept hgr e1, ?_, ?_, Nat.le_trans hsz hgr.size, hk⟩
  · rw [← Nat.add_assoc, ← List.drop_drop]
    exact hbuf.grown hgr fun e => by have := (hgone.lt b e.symm).1; omega
  · rw [take_more l j g k hk] at hown
    exact hown
  · intro x hx hx'
    rcases hblk with h | h
    · exact hap x hx (h.symm.trans hx')
    · rw [h] at hx'
      have := (hput.lt x hx).2
      simp at hx'
      omega

/-- One more is put: it has been laid behind the others. -/
theorem KeepS.one {w w' : World} {base b s o : Nat} {l : List UInt8} {j g : Nat} {ap ag : Option Addr} {cp cg : Nat} {ap' : Option Addr} {cp' : Nat} (hb : b < base) (hg : g ≤ j) (hj : j < l.length) (hbuf : IsBuf w b s (o + g) ((l.take j).drop g ++ [l[j]]))
    (hput : w.ownsRow base 5 1 (.slice ap j cp) j ((l.take j).map B)) (hgone : w.ownsRow base 5 1 (.slice ag g cg) g ((l.take g).map B))
    (hap : ∀ x, (Value.slice ap j cp).ownBlock = some x → (Value.slice ag g cg).ownBlock ≠ some x) (hsz : base ≤ w.heap.size)
    (hown : w'.ownsRow base 5 1 (.slice ap' (j + 1) cp') (j + 1) ((l.take j).map B ++ [B l[j]])) (hgr : w.grownBy w' (Value.slice ap j cp).ownBlock)
    (hblk : (Value.slice ap' (j + 1) cp').ownBlock = (Value.slice ap j cp).ownBlock ∨ (Value.slice ap' (j + 1) cp').ownBlock = some w.heap.size) : KeepS w' base b s o l (j + 1) g ap' ag cp' cg := by
  have e1 : (Value.slice ag g cg).ownBlock = none ∨ (Value.slice ag g cg).ownBlock ≠ (Value.slice ap j cp).ownBlock := by
    cases hx : (Value.slice ag g cg).ownBlock with
    | none => exact .inl rfl
    | some x => exact .inr fun e => hap x e.symm hx
  refine ⟨?_, ?_, hgone.kept hgr e1, ?_, Nat.le_trans hsz hgr.size, by omega⟩
  · rw [← drop_take_one l j g hg hj]
    exact hbuf.grown hgr fun e => by have := (hput.lt b e.symm).1; omega
  · rw [List.take_succ_eq_append_getElem hj, List.map_append]
    exact hown
  · intro x hx hx'
    rcases hblk with h | h
    · exact hap x (h.symm.trans hx) hx'
    · rw [h] at hx
      have := (hgone.lt x hx').2
      simp at hx
      omega

set_option maxRecDepth 100000 in
set_option maxHeartbeats 4000000 in
theorem keeps_walk (n : UInt8) (o : Nat) (ho : o ≤ 4294967295) (al aa : Option Addr) (capl capa : Nat) (l ts : List UInt8) (w : World) (hl0 : Slc w al l) (hcl : l.length ≤ capl) (hml : capl ≤ maxLen) (ha : Slc w aa ts) (hca : ts.length ≤ capa) (hma : capa ≤ maxLen) :
    Calls Try.prog 3 #[.int .u8 n.toNat, .int .u32 o, .slice al l.length capl, .slice aa ts.length capa] w fun e w' => e = .returned (.bool true) ∧ Below w.heap.size w w' := by
  obtain ⟨i0, hi0, hz0, hz1, hz2⟩ := info_parts Try.info5
  obtain ⟨s, hs1, hs2, hsz⟩ := size_some n
  obtain ⟨M, hM, hM2, hq, hq0⟩ := min500 l.length
  have k0 : IntKind.i64.wrap (o : Int) = o := IntWalk.i64_in _ (by omega)
  have hl := hl0.take M
  have hlen : (l.take M).length = M := by rw [List.length_take]; omega
  generalize l.take M = l' at hl hlen
  clear hl0
  go_enter Try.func3, Try.ntmps3
  go_wp2_with fail
  refine (awake_any w).mono ?_
  rintro e w1 ⟨rfl, g1⟩
  have B1 := below_of_grown g1
  clear g1
  go_wp2_with fail
  refine (hsz w1).mono ?_
  rintro e _ ⟨rfl, rfl⟩
  go_wp2_with fail
  refine (new_ok s o w1 hs1 hs2 (by omega)).mono ?_
  rintro e w2 ⟨rfl, hb2, g2⟩
  have B2 := B1.trans ((below_of_grown g2).mono B1.size)
  have hbw : w.heap.size ≤ w1.heap.size := B1.size
  have hbb : w1.heap.size < w2.heap.size := hb2.lt
  generalize w1.heap.size = b at hb2 hbw hbb ⊢
  clear g2 B1
  obtain ⟨base, hbase⟩ : ∃ x, x = w2.heap.size := ⟨_, rfl⟩
  rw [← hbase] at hbb
  have hK : KeepS w2 base b s o l' 0 0 none none 0 0 := ⟨by simpa using hb2, ⟨by simp, .inl ⟨rfl, rfl⟩⟩, ⟨by simp, .inl ⟨rfl, rfl⟩⟩, by simp [Value.ownBlock], by omega, Nat.le_refl _⟩
  clear hb2 hbase
  go_wp2_with fail
  go_loopw [48, 11, 12, 13] (fun v vp vg ve wr => ∃ (j g cp cg : Nat) (ap ag : Option Addr), j ≤ M ∧ v = .int .i64 j ∧ vp = .slice ap j cp ∧ vg = .slice ag g cg ∧ ve = .int .i64 (o + g : Nat) ∧ KeepS wr base b s o l' j g ap ag cp cg ∧ Below w.heap.size w wr)
    (fun v _ _ _ _ => M - (intOf v).toNat)
  case atStart => exact ⟨0, 0, 0, 0, none, none, Nat.zero_le _, rfl, rfl, rfl, by simp, hK, B2⟩
  case round =>
    clear hK B2 hq
    obtain ⟨j, g, cp, cg, ap, ag, hj, rfl, rfl, rfl, rfl, hR, hBr⟩ := hrel
    by_cases hlt : j < M
    · have hlt' : (j : Int) < M := by omega
      obtain rfl | ⟨bb, off, rfl, hbl, hbc⟩ := hl.below hBr (Nat.le_refl _)
      · simp at hlen; omega
      have hcj := hbc j (by omega)
      have hge := hR.le
      have hheld : ((l'.take j).drop g).length = j - g := by rw [List.length_drop, List.length_take]; omega
      have hjb : (j : Int) ≤ 500 := by omega
      have hgb : (g : Int) ≤ j := by omega

      go_upto_if 56 with fail
      go_cut [12, 13] (fun vg ve wx => ∃ (g cg : Nat) (ag : Option Addr), vg = .slice ag g cg ∧ ve = .int .i64 (o + g : Nat) ∧ KeepS wx base b s o l' j g ap ag cp cg ∧ Below w.heap.size w wx)
      case first =>
        by_cases ht : j < ts.length
        · obtain rfl | ⟨ab, ao, rfl, hal, hac⟩ := ha.below hBr (Nat.le_refl _)
          · simp at ht
          have htk := hac j ht
          clear hac hal
          generalize ts[j] = c at htk
          obtain ⟨k, hk⟩ : ∃ k : Nat, k = c.toNat := ⟨_, rfl⟩
          have hk8 : k ≤ 255 := by have := c.toNat_lt; omega
          rw [B, ← hk] at htk
          clear hk
          obtain ⟨og, hog⟩ : ∃ og, og = o + g := ⟨_, rfl⟩
          rw [← hog]
          have hogl : (og : Int) ≤ 4294967795 := by omega
          have hk8' : (k : Int) ≤ 255 := by omega
          have hbuf := hR.buf
          rw [← hog] at hbuf
          have HOG := Lib.hid hog
          clear hog
          have hkh : (k ≤ j - g ∧ ¬ ((j : Int) - g < k) ∧ (g + k ≤ j)) ∨ ((j : Int) - g < k ∧ ((j - g : Nat) : Int) < k) := by omega
          rcases hkh with ⟨hkh, hkd, hgk⟩ | ⟨hkd, hkh⟩
          · go_wp2_with fail
            refine (take_ok b k wr hbuf (by rw [hheld]; exact hkh)).mono ?_
            rintro e w3 ⟨gs, cs, rfl, os, hb3, g3⟩
            have hp3 := hR.put.kept g3 (own_ne hR.put hbb)
            have hg3 := hR.gone.kept g3 (own_ne hR.gone hbb)
            have B3 := below_grown hBr g3 hBr.size hbw
            have hz3 := Nat.le_trans hR.size g3.size
            go_wp2_with fail
            generalize hbx0 : w3.heap.size = bx
            have T4 : Two (w3.alloc (.cells #[.int .i64 og, .int .i64 (og + (k : Nat))] 31)) bx og (og + (k : Nat)) := ⟨by rw [← hbx0, World.alloc_heap_new]⟩
            have gA := World.grownBy_alloc w3 (.cells #[.int .i64 og, .int .i64 (og + (k : Nat))] 31) none
            have hb4 := hb3.grown gA (by simp)
            have hp4 := hp3.kept gA (Classical.em _)
            have hg4 := hg3.kept gA (Classical.em _)
            have os4 := os.kept gA (Classical.em _)
            have B4 := B3.trans ((below_of_grown gA).mono B3.size)
            have hz4 := Nat.le_trans hz3 gA.size
            have hbxg : some bx ≠ (Value.slice ag g cg).ownBlock := fun e => by have := (hg3.lt _ e.symm).2; omega
            generalize w3.alloc (.cells #[.int .i64 og, .int .i64 (og + (k : Nat))] 31) = w4 at T4 hb4 hp4 hg4 os4 B4 hz4 ⊢
            clear gA hb3 hp3 hg3 os B3 hz3 hbx0 g3
            refine region_mix [(0, .inl none), (1, .inl none), (3, .inl none), (4, .inl (some 0)), (2, .inr [0]), (5, .inl none), (6, .inl none)]
              (fun _ W => W.cell? ⟨bx, 1, none⟩ = some (.int .i64 (og + (k : Nat)))) (by kernel_rfl) (by kernel_rfl) (fun _ => T4.c1) ?_
            simp only [pickK, List.filterMap_cons, List.filterMap_nil, List.getElem?_toArray, List.getElem?_cons_zero, List.getElem?_cons_succ, Option.map_some]
            have e8 : (w4.drewN 1).heap = w4.heap := World.heap_drewN _ _
            replace hb4 := hb4.drewN 1
            replace hp4 := owns_heap (w' := w4.drewN 1) hp4 e8
            replace hg4 := owns_heap (w' := w4.drewN 1) hg4 e8
            replace os4 := owns_heap (w' := w4.drewN 1) os4 e8
            replace T4 := T4.of_block (w' := w4.drewN 1) (by rw [e8])
            replace B4 := below_drewN B4 1
            replace hz4 : base ≤ (w4.drewN 1).heap.size := by rw [e8]; exact hz4
            generalize w4.drewN 1 = w5 at hb4 hp4 hg4 os4 T4 B4 hz4 ⊢
            clear e8
            refine mix_free (fun K hK => ?_)
            go_simp
            refine hK _ ?_
            clear hK K
            refine mix_free (fun K hK => ?_)
            go_simp
            refine hK _ ?_
            clear hK K
            refine mix_free (fun K hK => ?_)
            go_simp
            refine hK _ ?_
            clear hK K
            refine mix_val (.int .i64 (og + (k : Nat))) (by rfl) (fun w' hw' => ?_) (fun K hK => ?_)
            · obtain p1 := hw'
              go_simp
            go_simp
            refine hK _ ?_
            clear hK K
            refine mix_step (fun K hK => ?_) (keep1 T4.c1)
            have hap := hR.apart
            have h63 : g + k ≤ maxLen ∧ (g + k) * 1 ≤ 140737488355328 := ⟨by unfold maxLen; omega, by omega⟩
            go_wp2_with (at_builtin; go_loud (refine wpList_append_own_at _ rfl _ _ 23 rfl base 5 i0 (.int .u8 0) 1 1 Try.underlying23 hi0 hz0 hz1 hz2 rfl (by decide) _ _ _ rfl hg4 ⟨gs, 0, none⟩ k cs _ rfl os4.1 (os4.cells rfl) (by intro u hu; obtain ⟨c, _, rfl⟩ := List.mem_map.1 hu; rfl) h63.1 h63.2 hz4 ?_); intro v' w6 hown' hgrow _ hblk; obtain ⟨ag', cg', rfl, R6⟩ := KeepS.more hbb hgk (by rw [← HOG.out]; exact hb4) hp4 hg4 hap hz4 hown' hgrow hblk)
            have T6 := T4.grown hgrow hbxg
            have B6 := B4.grown hgrow B4.size (fun r e => by have := (hg4.lt r e).1; omega)
            clear hown' hblk
            refine hK _ _ (keep1 T6.c1) ?_
            clear hK K
            refine mix_free (fun K hK => ?_)
            go_simp
            refine hK _ ?_
            clear hK K
            refine mix_free (fun K hK => ?_)
            go_simp
            refine hK _ ?_
            clear hK K
            refine mix_nil ?_
            go_wp2_with fail
            go_meet
            case rel => exact ⟨g + k, cg', ag', rfl, by rw [HOG.out]; simp [Int.add_assoc], R6, B6⟩
          · go_wp2_with fail
            refine (take_bad b k wr hbuf (.inr (by rw [hheld]; exact hkh))).mono ?_
            rintro e w3 ⟨rfl, g3⟩
            have gA := grown_trans g3 (World.grownBy_alloc w3 (.cells #[.int .i64 0, .int .i64 0] 31) none)
            have R3 := hR.grown gA
            have B3 := hBr.trans ((below_of_grown gA).mono hBr.size)
            go_wp2_with fail
            go_meet
            case rel =>
              refine ⟨g, cg, ag, rfl, by rw [HOG.out], R3, B3⟩
        · go_wp2_with fail
          go_meet
          case rel => exact ⟨g, cg, ag, rfl, rfl, hR, hBr⟩
      case rest =>
        clear hR hBr hheld hge hgb
        obtain ⟨g, cg, ag, rfl, rfl, hR, hBr⟩ := hcut
        have hge := hR.le
        have hgb : (g : Int) ≤ j := by omega
        have hheld : ((l'.take j).drop g).length = j - g := by rw [List.length_drop, List.length_take]; omega
        go_wp2_with fail
        refine (full_any _ _ hR.buf).mono ?_
        rintro e wd ⟨rfl, md, hwd⟩
        replace hR := hR.heap md hwd
        replace hBr : Below w.heap.size w wd := by rw [hwd]; exact below_drewN hBr md
        clear hwd
        have hfits := hR.buf.fits
        rw [hheld] at hfits
        obtain ⟨og, hog⟩ : ∃ og, og = o + g := ⟨_, rfl⟩
        rw [← hog]
        have hogl : (og : Int) ≤ 4294967795 := by omega
        have hbuf := hR.buf
        rw [← hog] at hbuf
        have HOG := Lib.hid hog
        clear hog
        go_upto_if 107 with fail
        go_cut [12, 13] (fun vg ve wx => ∃ (g cg : Nat) (ag : Option Addr), vg = .slice ag g cg ∧ ve = .int .i64 (o + g : Nat) ∧ KeepS wx base b s o l' j g ap ag cp cg ∧ Below w.heap.size w wx ∧ j - g < s)
        case first =>
          by_cases hf : j - g = s
          · have hls : ((l'.take j).drop g).length = s := hheld.trans hf
            have hfd : ((((l'.take j).drop g).length : Int) == s) = true := by rw [hls]; simp
            go_wp2_with fail
            refine (bytes_any _ _ hbuf).mono ?_
            rintro e w3 ⟨gs, cs, rfl, os, g3⟩
            rw [hls] at os ⊢
            have hb3 := hbuf.grown g3 (by simp)
            have hp3 := hR.put.kept g3 (Classical.em _)
            have hg3 := hR.gone.kept g3 (Classical.em _)
            have B3 := hBr.trans ((below_of_grown g3).mono hBr.size)
            have hz3 := Nat.le_trans hR.size g3.size
            have hap := hR.apart
            have hbd := hR.buf.lt
            clear g3
            go_wp2_with fail
            obtain ⟨h, hh⟩ : ∃ h, h = (s + 1) / 2 := ⟨_, rfl⟩
            have D := discard_full _ _ hb3 hls
            rw [← hh] at D
            refine D.mono ?_
            rintro e w4 ⟨rfl, hb4, g4⟩
            have hh2 : (h : Int) ≤ 128 ∧ h ≤ s ∧ 1 ≤ h := by omega
            have ht : ((s : Int) + 1).tdiv 2 = h := by rw [Int.tdiv_eq_ediv_of_nonneg (by omega)]; omega
            have hhs : ¬ ((s : Int) < h) := by omega
            have hcs := owns_cap' os
            have hgk0 : g + h ≤ j := by omega
            have h630 : g + h ≤ maxLen ∧ (g + h) * 1 ≤ 140737488355328 := ⟨by unfold maxLen; omega, by omega⟩
            have hjg0 : j - (g + h) < s := by omega
            have hhcs : (h : Int) ≤ cs := by omega
            clear D hh
            have hp4 := hp3.kept g4 (own_ne hp3 hbb)
            have hg4 := hg3.kept g4 (own_ne hg3 hbb)
            have os4 := os.kept g4 (own_ne os hbd)
            have B4 := below_grown B3 g4 B3.size hbw
            have hz4 := Nat.le_trans hz3 g4.size
            clear g4 hb3 hp3 hg3 os B3 hz3
            go_wp2_with fail
            generalize hbx0 : w4.heap.size = bx
            have T8 : Two (w4.alloc (.cells #[.int .i64 og, .int .i64 (og + (h : Nat))] 31)) bx og (og + (h : Nat)) := ⟨by rw [← hbx0, World.alloc_heap_new]⟩
            have gA := World.grownBy_alloc w4 (.cells #[.int .i64 og, .int .i64 (og + (h : Nat))] 31) none
            have hb8 := hb4.grown gA (by simp)
            have hp8 := hp4.kept gA (Classical.em _)
            have hg8 := hg4.kept gA (Classical.em _)
            have os8 := os4.kept gA (Classical.em _)
            have B8 := B4.trans ((below_of_grown gA).mono B4.size)
            have hz8 := Nat.le_trans hz4 gA.size
            have hbxg : some bx ≠ (Value.slice ag g cg).ownBlock := fun e => by have := (hg4.lt _ e.symm).2; omega
            generalize w4.alloc (.cells #[.int .i64 og, .int .i64 (og + (h : Nat))] 31) = w8 at T8 hb8 hp8 hg8 os8 B8 hz8 ⊢
            clear gA hb4 hp4 hg4 os4 B4 hz4 hbx0
            refine region_mix [(0, .inl none), (1, .inl none), (2, .inl none), (3, .inl none), (4, .inl (some 0)), (5, .inl none), (6, .inl none), (7, .inl none), (8, .inl none), (9, .inl none), (10, .inl (some 0)), (11, .inl none), (12, .inl none), (13, .inr [0]), (14, .inl none), (15, .inl none), (16, .inl none), (17, .inl none), (18, .inl none), (19, .inl none), (20, .inl none), (21, .inl (some 0)), (22, .inl none), (23, .inl (some 0)), (24, .inl none), (25, .inl none), (26, .inl none), (27, .inl none), (28, .inl none)]
              (fun _ W => W.cell? ⟨bx, 0, none⟩ = some (.int .i64 og) ∧ W.cell? ⟨bx, 1, none⟩ = some (.int .i64 (og + (h : Nat)))) (by kernel_rfl) (by kernel_rfl) (fun _ => ⟨T8.c0, T8.c1⟩) ?_
            simp only [pickK, List.filterMap_cons, List.filterMap_nil, List.getElem?_toArray, List.getElem?_cons_zero, List.getElem?_cons_succ, Option.map_some]
            have e8 : (w8.drewN 1).heap = w8.heap := World.heap_drewN _ _
            replace hb8 := hb8.drewN 1
            replace hp8 := owns_heap (w' := w8.drewN 1) hp8 e8
            replace hg8 := owns_heap (w' := w8.drewN 1) hg8 e8
            replace os8 := owns_heap (w' := w8.drewN 1) os8 e8
            replace T8 := T8.of_block (w' := w8.drewN 1) (by rw [e8])
            replace B8 := below_drewN B8 1
            replace hz8 : base ≤ (w8.drewN 1).heap.size := by rw [e8]; exact hz8
            generalize w8.drewN 1 = w9 at hb8 hp8 hg8 os8 T8 B8 hz8 ⊢
            clear e8
            have f1 : (og : Int) + h - og = h := by omega
            have kA : IntKind.i64.wrap ((s : Int) + 1) = s + 1 := IntWalk.i64_in _ (by omega)
            have kB : IntKind.i64.wrap (h : Int) = h := IntWalk.i64_in _ (by omega)
            have kC : IntKind.i64.wrap ((og : Int) + h) = og + h := IntWalk.i64_in _ (by omega)
            refine mix_free (fun K hK => ?_)
            go_simp
            refine hK _ ?_
            clear hK K
            refine mix_free (fun K hK => ?_)
            go_simp
            refine hK _ ?_
            clear hK K
            refine mix_free (fun K hK => ?_)
            go_simp
            refine hK _ ?_
            clear hK K
            refine mix_free (fun K hK => ?_)
            go_simp
            refine hK _ ?_
            clear hK K
            refine mix_val (.int .i64 og) (by rfl) (fun w' hw' => ?_) (fun K hK => ?_)
            · obtain ⟨p0, p1⟩ := hw'
              go_simp
            go_simp
            refine hK _ ?_
            clear hK K
            refine mix_free (fun K hK => ?_)
            go_simp
            refine hK _ ?_
            clear hK K
            refine mix_free (fun K hK => ?_)
            go_simp
            refine hK _ ?_
            clear hK K
            refine mix_free (fun K hK => ?_)
            go_simp
            refine hK _ ?_
            clear hK K
            refine mix_free (fun K hK => ?_)
            go_simp
            refine hK _ ?_
            clear hK K
            refine mix_free (fun K hK => ?_)
            go_simp
            refine hK _ ?_
            clear hK K
            refine mix_val (.int .i64 (og + (h : Nat))) (by rfl) (fun w' hw' => ?_) (fun K hK => ?_)
            · obtain ⟨p0, p1⟩ := hw'
              go_simp
            go_simp
            refine hK _ ?_
            clear hK K
            refine mix_free (fun K hK => ?_)
            go_simp
            refine hK _ ?_
            clear hK K
            refine mix_free (fun K hK => ?_)
            go_simp
            refine hK _ ?_
            clear hK K
            refine mix_step (fun K hK => ?_) (keep1 ⟨T8.c0, T8.c1⟩)
            go_wp2_with fail
            refine (hsz _).mono ?_
            rintro e _ ⟨rfl, rfl⟩
            go_wp2_with fail
            refine hK _ _ (keep1 ⟨T8.c0, T8.c1⟩) ?_
            clear hK K
            refine mix_free (fun K hK => ?_)
            go_simp
            refine hK _ ?_
            clear hK K
            refine mix_free (fun K hK => ?_)
            go_simp
            refine hK _ ?_
            clear hK K
            refine mix_free (fun K hK => ?_)
            go_simp
            refine hK _ ?_
            clear hK K
            refine mix_free (fun K hK => ?_)
            go_simp
            refine hK _ ?_
            clear hK K
            refine mix_free (fun K hK => ?_)
            go_simp
            refine hK _ ?_
            clear hK K
            refine mix_free (fun K hK => ?_)
            go_simp
            refine hK _ ?_
            clear hK K
            refine mix_free (fun K hK => ?_)
            go_simp
            refine hK _ ?_
            clear hK K
            refine mix_val (.int .i64 (og + (h : Nat))) (by rfl) (fun w' hw' => ?_) (fun K hK => ?_)
            · obtain ⟨p0, p1⟩ := hw'
              go_simp
            go_simp
            refine hK _ ?_
            clear hK K
            refine mix_free (fun K hK => ?_)
            go_simp
            refine hK _ ?_
            clear hK K
            refine mix_val (.int .i64 og) (by rfl) (fun w' hw' => ?_) (fun K hK => ?_)
            · obtain ⟨p0, p1⟩ := hw'
              go_simp
            go_simp
            refine hK _ ?_
            clear hK K
            refine mix_free (fun K hK => ?_)
            go_simp
            refine hK _ ?_
            clear hK K
            refine mix_free (fun K hK => ?_)
            go_simp
            refine hK _ ?_
            clear hK K
            refine mix_free (fun K hK => ?_)
            go_simp
            refine hK _ ?_
            clear hK K
            refine mix_free (fun K hK => ?_)
            go_simp
            refine hK _ ?_
            clear hK K
            refine mix_free (fun K hK => ?_)
            go_simp
            refine hK _ ?_
            clear hK K
            refine mix_nil ?_
            go_wp2_with fail
            refine region_mix [(0, .inl none), (1, .inl none), (2, .inl none), (3, .inl (some 0)), (4, .inl none), (5, .inl (some 0)), (6, .inl none), (7, .inl none), (9, .inl none), (10, .inl (some 0)), (8, .inr [0]), (11, .inl none), (12, .inl none)]
              (fun _ W => W.cell? ⟨bx, 0, none⟩ = some (.int .i64 og) ∧ W.cell? ⟨bx, 1, none⟩ = some (.int .i64 (og + (h : Nat)))) (by kernel_rfl) (by kernel_rfl) (fun _ => ⟨T8.c0, T8.c1⟩) ?_
            simp only [pickK, List.filterMap_cons, List.filterMap_nil, List.getElem?_toArray, List.getElem?_cons_zero, List.getElem?_cons_succ, Option.map_some]
            have e8 : (w9.drewN 1).heap = w9.heap := World.heap_drewN _ _
            replace hb8 := hb8.drewN 1
            replace hp8 := owns_heap (w' := w9.drewN 1) hp8 e8
            replace hg8 := owns_heap (w' := w9.drewN 1) hg8 e8
            replace os8 := owns_heap (w' := w9.drewN 1) os8 e8
            replace T8 := T8.of_block (w' := w9.drewN 1) (by rw [e8])
            replace B8 := below_drewN B8 1
            replace hz8 : base ≤ (w9.drewN 1).heap.size := by rw [e8]; exact hz8
            generalize w9.drewN 1 = w5 at hb8 hp8 hg8 os8 T8 B8 hz8 ⊢
            clear e8
            have ot := owns_take h os8 hh2.2.1
            rw [← List.map_take] at ot
            have hgk : g + h ≤ j := hgk0
            have h63 : g + h ≤ maxLen ∧ (g + h) * 1 ≤ 140737488355328 := h630
            refine mix_free (fun K hK => ?_)
            go_simp
            refine hK _ ?_
            clear hK K
            refine mix_free (fun K hK => ?_)
            go_simp
            refine hK _ ?_
            clear hK K
            refine mix_free (fun K hK => ?_)
            go_simp
            refine hK _ ?_
            clear hK K
            refine mix_val (.int .i64 (og + (h : Nat))) (by rfl) (fun w' hw' => ?_) (fun K hK => ?_)
            · obtain ⟨p0, p1⟩ := hw'
              go_simp
            go_simp
            refine hK _ ?_
            clear hK K
            refine mix_free (fun K hK => ?_)
            go_simp
            refine hK _ ?_
            clear hK K
            refine mix_val (.int .i64 og) (by rfl) (fun w' hw' => ?_) (fun K hK => ?_)
            · obtain ⟨p0, p1⟩ := hw'
              go_simp
            go_simp
            refine hK _ ?_
            clear hK K
            refine mix_free (fun K hK => ?_)
            go_simp
            refine hK _ ?_
            clear hK K
            refine mix_free (fun K hK => ?_)
            go_simp
            refine hK _ ?_
            clear hK K
            refine mix_free (fun K hK => ?_)
            go_simp
            refine hK _ ?_
            clear hK K
            refine mix_val (.int .i64 (og + (h : Nat))) (by rfl) (fun w' hw' => ?_) (fun K hK => ?_)
            · obtain ⟨p0, p1⟩ := hw'
              go_simp
            go_simp
            refine hK _ ?_
            clear hK K
            refine mix_step (fun K hK => ?_) (keep1 ⟨T8.c0, T8.c1⟩)
            go_wp2_with (at_builtin; refine wpList_append_own_at _ rfl _ _ 23 rfl base 5 i0 (.int .u8 0) 1 1 Try.underlying23 hi0 hz0 hz1 hz2 rfl (by decide) _ _ _ rfl hg8 ⟨gs, 0, none⟩ h cs _ rfl ot.1 (ot.cells rfl) (by intro u hu; obtain ⟨c, _, rfl⟩ := List.mem_map.1 hu; rfl) h63.1 h63.2 hz8 ?_; intro v' w6 hown' hgrow _ hblk; obtain ⟨ag', cg', rfl, R6⟩ := KeepS.more hbb hgk (by rw [← HOG.out]; exact hb8) hp8 hg8 hap hz8 hown' hgrow hblk)
            have T6 := T8.grown hgrow hbxg
            have B6 := B8.grown hgrow B8.size (fun r e => by have := (hg8.lt r e).1; omega)
            clear hown' hblk
            refine hK _ _ (keep1 ⟨T6.c0, T6.c1⟩) ?_
            clear hK K
            refine mix_free (fun K hK => ?_)
            go_simp
            refine hK _ ?_
            clear hK K
            refine mix_free (fun K hK => ?_)
            go_simp
            refine hK _ ?_
            clear hK K
            refine mix_nil ?_
            go_wp2_with fail
            go_meet
            case rel => exact ⟨g + h, cg', ag', rfl, by rw [HOG.out]; simp [Int.add_assoc], R6, B6, hjg0⟩
          · have hfd : ((((l'.take j).drop g).length : Int) == s) = false := by rw [hheld]; simp; omega
            go_wp2_with fail
            go_meet
            case rel => exact ⟨g, cg, ag, rfl, by rw [HOG.out], hR, hBr, by omega⟩
        case rest =>
          clear hR hBr hheld hge hgb hfits hbuf hogl HOG
          obtain ⟨g, cg, ag, rfl, rfl, hR, hBr, hlts⟩ := hcut
          have hge := hR.le
          have hgb : (g : Int) ≤ j := by omega
          have hheld : ((l'.take j).drop g).length = j - g := by rw [List.length_drop, List.length_take]; omega
          go_wp2_with fail
          refine (put_ok _ _ _ hR.buf (by rw [hheld]; exact hlts) (by rw [hheld]; omega)).mono ?_
          rintro e w3 ⟨rfl, hb3, g3⟩
          have hp3 := hR.put.kept g3 (own_ne hR.put hbb)
          have hg3 := hR.gone.kept g3 (own_ne hR.gone hbb)
          have B3 := below_grown hBr g3 hBr.size hbw
          have hz3 := Nat.le_trans hR.size g3.size
          have hap := hR.apart
          clear g3
          have h63 : j + 1 ≤ maxLen ∧ (j + 1) * 1 ≤ 140737488355328 := ⟨by unfold maxLen; omega, by omega⟩
          go_wp2_with (at_builtin; refine wpList_append_own_at _ rfl _ _ 23 rfl base 5 i0 (.int .u8 0) 1 1 Try.underlying23 hi0 hz0 hz1 hz2 rfl (by decide) _ _ _ rfl (hp3.alloc _) ⟨w3.heap.size, 0, none⟩ 1 1 [B l'[j]] rfl rfl (cell_one_new _ _ _) (by simp [Value.oneCell', B]) h63.1 h63.2 (by simp; omega) ?_; intro v' w6 hown' hgrow _ hblk; obtain ⟨ap', cp', rfl, _⟩ := own_slice hown')
          have hgA := hg3.kept (World.grownBy_alloc w3 (.cells #[B l'[j]] 5) none) (Classical.em _)
          have hbA := hb3.grown (World.grownBy_alloc w3 (.cells #[B l'[j]] 5) none) (by simp)
          have BA := B3.trans ((below_of_grown (World.grownBy_alloc w3 (.cells #[B l'[j]] 5) none)).mono B3.size)
          have hzA := Nat.le_trans hz3 (World.grownBy_alloc w3 (.cells #[B l'[j]] 5) none).size
          have R6 : KeepS w6 base b s o l' (j + 1) g ap' ag cp' cg := KeepS.one hbb hge (by omega) hbA (hp3.alloc _) hgA hap hzA hown' hgrow hblk
          have B6 := BA.grown hgrow BA.size (fun r e => by have := (hp3.lt r e).1; omega)
          clear hown' hblk hgrow hgA hbA BA hzA hp3 hg3 hb3 B3 hz3 hap h63
          have hh6 : (((l'.take (j + 1)).drop g).length : Int) = j + 1 - g := by rw [List.length_drop, List.length_take]; omega
          refine (part_any _ _ R6.buf).mono ?_
          rintro e w7 ⟨rfl, g7⟩
          have R7 := R6.grown g7
          have B7 := B6.trans ((below_of_grown g7).mono B6.size)
          clear R6 B6 g7
          rw [hh6, show ((o + g : Nat) : Int) + (j + 1 - g) = o + (j + 1) by omega]
          clear hh6
          go_wp2_with fail
          go_roundw
          case rel => exact ⟨j + 1, g, cp', cg, ap', ag, by omega, by go_num, rfl, rfl, rfl, R7, B7⟩
          case measure => simp [intOf]; omega
    · obtain rfl : j = M := by omega
      have hnl : ¬ ((j : Int) < j) := by omega
      have hge := hR.le
      have hheld : ((l'.take j).drop g).length = j - g := by rw [List.length_drop, List.length_take]; omega
      have h63 : g + (j - g) ≤ maxLen ∧ (g + (j - g)) * 1 ≤ 140737488355328 := ⟨by unfold maxLen; omega, by omega⟩
      go_wp2_with fail
      refine (bytes_any _ _ hR.buf).mono ?_
      rintro e w3 ⟨gs, cs, rfl, os, g3⟩
      have R3 := hR.grown g3
      have B3 := hBr.trans ((below_of_grown g3).mono hBr.size)
      have hp3 := R3.put
      have hg3 := R3.gone
      have hz3 := R3.size
      have hap := R3.apart
      rw [hheld] at os ⊢
      clear g3 hR hBr
      go_wp2_with (at_builtin; refine wpList_append_own_at _ rfl _ _ 23 rfl base 5 i0 (.int .u8 0) 1 1 Try.underlying23 hi0 hz0 hz1 hz2 rfl (by decide) _ _ _ rfl hg3 ⟨gs, 0, none⟩ (j - g) cs _ rfl os.1 (os.cells rfl) (by intro u hu; obtain ⟨c, _, rfl⟩ := List.mem_map.1 hu; rfl) h63.1 h63.2 hz3 ?_; intro v' w6 hown' hgrow _ hblk; obtain ⟨ag', cg', rfl, _⟩ := own_slice hown')
      have e1 : (l'.take g).map B ++ ((l'.take j).drop g).map B = (l'.take j).map B := by
        have := take_more l' j g (j - g) (by omega)
        rwa [show ((l'.take j).drop g).take (j - g) = (l'.take j).drop g from List.take_of_length_le (by omega), Nat.add_sub_cancel' hge] at this
      rw [e1] at hown'
      have e2 : (Value.slice ap j cp).ownBlock = none ∨ (Value.slice ap j cp).ownBlock ≠ (Value.slice ag g cg).ownBlock := by
        cases hx : (Value.slice ap j cp).ownBlock with
        | none => exact .inl rfl
        | some x => exact .inr fun e => hap x hx e.symm
      have hp6 := hp3.kept hgrow e2
      have B6 := B3.grown hgrow B3.size (fun r e => by have := (hg3.lt r e).1; omega)
      refine (equal_any (l'.take j) (l'.take j) _ _ _ _ _ _ _ ?hn ?hm (slc_of_owns hown').1 (slc_of_owns hp6).1).mono ?_
      case hn => rw [List.length_take]; omega
      case hm => rw [List.length_take]; omega
      rintro e _ ⟨rfl, rfl⟩
      rw [show (l'.take j == l'.take j) = true by simp]
      go_wp2_with fail
      go_ret
      exact ⟨rfl, B6⟩
end Go.Proofs.Ytadoobkieehajaa
