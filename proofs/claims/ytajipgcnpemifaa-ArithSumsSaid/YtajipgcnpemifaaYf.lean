/- The walk of ArithSums. -/
import Derived.Test.YtajipgcnpemifaaYe
import Derived.Test.YtajipgcnpemifaaSb
namespace Go.Proofs.Ytajipgcnpemifaa
open Go.RowKit Ieee

set_option maxRecDepth 100000 in
set_option maxHeartbeats 8000000 in
theorem sums_walk (ak al : Option Addr) (ck cl : Nat) (k l : List Nat) (w : World) (hk : Uls w ak k) (hck : k.length ≤ ck) (hmk : ck ≤ maxLen) (hl : Uls w al l) (hcl : l.length ≤ cl) (hml : cl ≤ maxLen) :
    Calls Try.prog 6 #[.slice ak k.length ck, .slice al l.length cl] w fun e w' => e = .returned (.bool true) ∧ Below w.heap.size w w' := by
  have info24 : (Try.prog.info? 24).map (fun i => (i.zero, i.size, i.bytes)) = some (some (.float .f64 0), 1, 8) := by kernel_rfl
  obtain ⟨i0, hi0, hz0, hz1, hz2⟩ := info_parts info24
  clear info24
  obtain ⟨K, hK12, hKn, eK⟩ := min_twelve k.length
  obtain ⟨L, hL12, hLn, eL⟩ := min_twelve l.length
  have hkK := hk.take K
  have hlL := hl.take L
  have lenK : (k.take K).length = K := by rw [List.length_take]; omega
  have lenL : (l.take L).length = L := by rw [List.length_take]; omega
  generalize k.take K = p at hkK lenK
  generalize l.take L = q at hlL lenL
  have HLK := Lib.hid lenK
  have HLL := Lib.hid lenL
  clear hk hl lenK lenL
  unfold maxLen at hmk hml
  generalize k.length = nk at *
  generalize l.length = nl at *
  have hB := Below.refl w.heap.size w
  go_enter Try.func6, Try.ntmps6
  go_wp2_with fail
  refine (awake_any _).mono ?_
  rintro e w1 ⟨rfl, hN⟩
  replace hB := hB.trans (hN.mono hB.size)
  clear hN
  go_wp2_with fail
  have hb0 := hB.size
  go_loopw [5, 30] (fun v i wr => ∃ (j : Nat) (ad : Option Addr) (cap : Nat), j ≤ K ∧ i = .int .i64 j ∧ v = .slice ad j cap ∧ wr.ownsRow w.heap.size 24 1 (.slice ad j cap) j ((p.take j).map F) ∧ Below w.heap.size w wr ∧ (j = 0 → ad = none)) (fun _ i _ => K - (intOf i).toNat)
  case atStart => exact ⟨0, none, 0, Nat.zero_le _, rfl, rfl, World.ownsRow_nil w1 _ _ _, hB, fun _ => rfl⟩
  case round =>
    clear hB hb0
    obtain ⟨j, adp, capp, hj, rfl, rfl, hrow, hB, hz0'⟩ := hrel
    have HZP := Lib.hid hz0'
    clear hz0'
    have hP := hkK.below hB
    have hb0 := hB.size
    by_cases hlt : j < K
    · have hjp : j < p.length := by rw [HLK.out]; exact hlt
      have hx2 := hP.fits p[j] (List.getElem_mem hjp)
      have HT := Lib.hid (take_next p j hjp)
      rcases hP.at_ with h0 | ⟨b, o, rfl, hb, hc⟩
      · exfalso; rw [h0] at hjp; simp at hjp
      have hcj := hc j hjp
      clear hc
      generalize hx : p[j] = x at hcj hx2 HT
      have Hx := Lib.hid hx
      clear hx
      have HX2 := Lib.hid hx2
      clear hx2
      go_wp2_with (at_builtin; refine wpList_append_own _ rfl _ _ 45 rfl w.heap.size 24 i0 (.float .f64 0) 1 8 Try.underlying45 hi0 hz0 hz1 hz2 rfl (by decide) _ _ _ rfl (hrow.alloc _) ⟨wr.heap.size, 0, none⟩ 1 1 [.float .f64 x] rfl rfl (cell_one_new _ _ _) (by simp [Value.oneCell']) (by unfold maxLen; omega) (by omega) (by simp; omega) ?_; intro v' w5 hown' hgrow _; obtain ⟨ad', cap', rfl⟩ := owns_shape hown')
      have e1 : (p.take j).map F ++ [.float .f64 x] = (p.take (j + 1)).map F := by rw [HT.out]; simp [F]
      rw [e1] at hown'
      have E1 := Lib.hid e1
      clear e1
      have hB5 := (hB.alloc hB.size (.cells #[.float .f64 x] 24)).grown hgrow (hB.alloc hB.size (.cells #[.float .f64 x] 24)).size (owns_block hrow)
      have hA := (Below.refl wr.heap.size wr).alloc (Nat.le_refl _) (.cells #[.float .f64 x] 24)
      go_roundw
      case rel => exact ⟨j + 1, ad', cap', by omega, by go_num, rfl, hown', hB5, fun h => absurd h (by omega)⟩
      case measure => simp [intOf]; omega
    · have eK : j = K := by omega
      subst eK
      have ep : p.take j = p := List.take_of_length_le (by rw [HLK.out]; omega)
      rw [ep] at hrow
      clear ep hP
      go_wp2_with fail
      obtain ⟨FP, lenP, capP, _⟩ := fls_of_owns hrow hkK.fits
      have nP : adp = none → j = 0 ∧ capp = 0 := fun e => by subst e; exact owns_none hrow
      have HNP := Lib.hid nP
      have HLP := Lib.hid lenP
      clear nP lenP hrow hlt hj
      obtain ⟨wp, rfl⟩ : ∃ wp : World, wp = wr := ⟨_, rfl⟩
      go_loopw [6, 46] (fun v i wt => ∃ (t : Nat) (ad : Option Addr) (cap : Nat), t ≤ L ∧ i = .int .i64 t ∧ v = .slice ad t cap ∧ wt.ownsRow wp.heap.size 24 1 (.slice ad t cap) t ((q.take t).map F) ∧ Below wp.heap.size wp wt ∧ (t = 0 → ad = none)) (fun _ i _ => L - (intOf i).toNat)
      case atStart => exact ⟨0, none, 0, Nat.zero_le _, rfl, rfl, World.ownsRow_nil wp _ _ _, Below.refl _ _, fun _ => rfl⟩
      case round =>
        obtain ⟨t, ad, cap, ht, rfl, rfl, hrow, hT, hz0'⟩ := hrel
        have HZQ := Lib.hid hz0'
        clear hz0'
        have hBt := hB.trans (hT.mono hB.size)
        have hQ := hlL.below hBt
        have hb0 := hT.size
        by_cases hlt : t < L
        · have hjp : t < q.length := by rw [HLL.out]; exact hlt
          have hx2 := hQ.fits q[t] (List.getElem_mem hjp)
          have HT := Lib.hid (take_next q t hjp)
          rcases hQ.at_ with h0 | ⟨b, o, rfl, hb, hc⟩
          · exfalso; rw [h0] at hjp; simp at hjp
          have hcj := hc t hjp
          clear hc
          generalize hx : q[t] = x at hcj hx2 HT
          have Hx := Lib.hid hx
          clear hx
          have HX2 := Lib.hid hx2
          clear hx2
          generalize hbs : wp.heap.size = base at hrow hb0
          have Hbs := Lib.hid hbs
          clear hbs
          go_wp2_with (at_builtin; refine wpList_append_own _ rfl _ _ 45 rfl base 24 i0 (.float .f64 0) 1 8 Try.underlying45 hi0 hz0 hz1 hz2 rfl (by decide) _ _ _ rfl (hrow.alloc _) ⟨wr.heap.size, 0, none⟩ 1 1 [.float .f64 x] rfl rfl (cell_one_new _ _ _) (by simp [Value.oneCell']) (by unfold maxLen; omega) (by omega) (by simp; omega) ?_; intro v' w5 hown' hgrow _; obtain ⟨ad', cap', rfl⟩ := owns_shape hown')
          have e1 : (q.take t).map F ++ [.float .f64 x] = (q.take (t + 1)).map F := by rw [HT.out]; simp [F]
          rw [e1] at hown'
          have E1 := Lib.hid e1
          clear e1
          have hbl := owns_block hrow
          have ebs := Hbs.out
          subst ebs
          have hT5 := (hT.alloc hT.size (.cells #[.float .f64 x] 24)).grown hgrow (hT.alloc hT.size (.cells #[.float .f64 x] 24)).size hbl
          go_roundw
          case rel => exact ⟨t + 1, ad', cap', by omega, by go_num, rfl, hown', hT5, fun h => absurd h (by omega)⟩
          case measure => simp [intOf]; omega
        · have eL : t = L := by omega
          subst eL
          have ep : q.take t = q := List.take_of_length_le (by rw [HLL.out]; omega)
          rw [ep] at hrow
          obtain ⟨FQ, lenQ, capQ, _⟩ := fls_of_owns hrow hlL.fits
          have nQ : ad = none → t = 0 ∧ cap = 0 := fun e => by subst e; exact owns_none hrow
          have HNQ := Lib.hid nQ
          have HLQ := Lib.hid lenQ
          have FP2 := FP.below hT
          clear nQ lenQ hrow hQ ep hlt ht hb0 hT FP hB hkK hlL
          go_wp2_with fail
          have FP := FP2
          clear FP2
          refine (sum_is _ _ _ p _ FP HLP.out (by have := HLP.out; omega)).mono ?_
          rintro e w2 ⟨rfl, hN⟩
          have hB := hBt
          clear hBt
          replace FP := FP.below hN
          replace FQ := FQ.below hN
          replace hB := hB.trans (hN.mono hB.size)
          clear hN
          go_wp2_with fail
          obtain ⟨wq, rfl⟩ : ∃ wq : World, wq = wr := ⟨_, rfl⟩
          go_loopw [11, 60] (fun s i wt => ∃ n : Nat, n ≤ t ∧ i = .int .i64 n ∧ s = .float .f64 (sumb (p ++ q.take n)) ∧ Fls wt adp p ∧ Fls wt ad q ∧ Below w.heap.size w wt) (fun _ i _ => t - (intOf i).toNat)
          case atStart => exact ⟨0, Nat.zero_le _, rfl, by simp, FP, FQ, hB⟩
          case round =>
            clear FP FQ hB
            obtain ⟨n, hn, rfl, rfl, FP, FQ, hB⟩ := hrel
            by_cases hlt : n < t
            · have hnq : n < q.length := by rw [HLQ.out]; exact hlt
              have hxl := FQ.fits q[n] (List.getElem_mem hnq)
              have hsl := sumb_lt (p ++ q.take n)
              have HT := Lib.hid (sumb_take p q n hnq)
              rcases FQ.at_ with h0 | ⟨b, o, rfl, hb, hc⟩
              · exfalso; rw [h0] at hnq; simp at hnq
              have hcn := hc n hnq
              clear hc
              generalize hx : q[n] = x at hcn hxl HT
              have Hx := Lib.hid hx
              clear hx
              generalize hs : sumb (p ++ q.take n) = s at hsl HT ⊢
              have Hs := Lib.hid hs
              clear hs
              have hcapq : (n : Int) + 1 ≤ (cap : Int) := by omega
              have hwr : IntKind.i64.wrap ((n : Int) + 1) = (n : Int) + 1 := by rw [IntKind.wrap_i64]; omega
              have h0n : (0 : Int) ≤ (n : Int) + 1 := by omega
              have HW := Lib.hid hwr
              clear hwr
              go_wp2_with fail
              refine (do10_any 2 (by omega) (by omega) _ _ _ hsl hxl).mono ?_
              rintro e w3 ⟨rfl, hN⟩
              replace FP := FP.below hN
              replace FQ := FQ.below hN
              replace hB := hB.trans (hN.mono hB.size)
              clear hN
              go_wp2_with fail
              have hwr := HW.out
              refine region_mix [(1, .inl none), (3, .inl none), (4, .inl none), (5, .inl none), (6, .inl none), (9, .inl none), (0, .inr [0]), (2, .inr [0]), (7, .inr [0]), (8, .inr [0]), (10, .inr [0]), (11, .inl none), (12, .inl none), (13, .inl none), (16, .inl none), (14, .inr [0]), (15, .inr [0]), (17, .inr [0]), (18, .inl none), (19, .inl none)]
                (fun _ _ => True) (by kernel_rfl) (by kernel_rfl) (fun _ => trivial) ?_
              have hN : Below w3.heap.size w3 (w3.drewN 1) := below_drewN' (Below.refl _ _) 1
              replace FP := FP.below hN
              replace FQ := FQ.below hN
              replace hB := hB.trans (hN.mono hB.size)
              clear hN
              generalize w3.drewN 1 = w4 at FP FQ hB ⊢
              refine mix_free_k (by rfl) (fun K hK => ?_)
              go_simp
              refine hK _ ?_
              clear hK K
              refine mix_free_k (by rfl) (fun K hK => ?_)
              go_simp
              refine hK _ ?_
              clear hK K
              refine mix_free_k (by rfl) (fun K hK => ?_)
              go_simp
              refine hK _ ?_
              clear hK K
              refine mix_free_k (by rfl) (fun K hK => ?_)
              go_simp
              refine hK _ ?_
              clear hK K
              refine mix_free_k (by rfl) (fun K hK => ?_)
              go_simp
              refine hK _ ?_
              clear hK K
              refine mix_free_k (by rfl) (fun K hK => ?_)
              go_simp
              refine hK _ ?_
              clear hK K
              clear hwr
              have hcase : adp = none ∨ ∃ ap, adp = some ap := by cases adp with
                | none => exact .inl rfl
                | some ap => exact .inr ⟨ap, rfl⟩
              rcases hcase with hadp | ⟨ap, hadp⟩
              · have HA := Lib.hid hadp
                clear hadp
                have hj0 := HNP.out HA.out
                have Hj := Lib.hid hj0.1
                have Hc := Lib.hid hj0.2
                have hp0 : p = [] := List.eq_nil_of_length_eq_zero (by rw [HLP.out, Hj.out])
                have Hp := Lib.hid hp0
                clear hj0 hp0
                refine mix_step_k (by rfl) (fun K hK => ?_) (fun _ _ => trivial)
                go_wp2_with fail
                have row0 := World.ownsRow_made (base := w4.heap.size) (e := 24) (size := 1) w4 #[] 0 (Nat.le_refl _) (Nat.zero_le _) rfl
                have T5 : Below w4.heap.size w4 (w4.alloc (.cells #[] 24)) := (Below.refl _ _).alloc (Nat.le_refl _) _
                generalize w4.alloc (.cells #[] 24) = w5 at row0 T5 ⊢
                have hsz := T5.size
                refine hK _ _ (fun _ _ => trivial) ?_
                clear hK K
                refine mix_step_k (by rfl) (fun K hK => ?_) (fun _ _ => trivial)
                go_wp2_with (at_builtin; refine wpList_append_own_none rfl _ _ 45 rfl w4.heap.size 24 i0 1 Try.underlying45 hi0 _ _ _ rfl row0 (by show Value.slice adp j capp = _; rw [HA.out, Hj.out, Hc.out]) ?_)
                have row1 : w5.ownsRow w4.heap.size 24 1 (.slice (some ⟨w4.heap.size, 0, none⟩) 0 0) 0 (p.map F) := by rw [Hp.out]; exact row0
                clear row0
                refine hK _ _ (fun _ _ => trivial) ?_
                clear hK K
                refine mix_step_k (by rfl) (fun K hK => ?_) (fun _ _ => trivial)
                have FQ5 := ((FQ.below T5).take (n + 1)).news
                have lq : (q.take (n + 1)).length = n + 1 := by rw [List.length_take, HLQ.out]; omega
                have HLq := Lib.hid lq
                clear lq
                go_wp2_with (at_builtin; refine wpList_append_own _ rfl _ _ 45 rfl w4.heap.size 24 i0 (.float .f64 0) 1 8 Try.underlying45 hi0 hz0 hz1 hz2 rfl (by decide) _ _ _ rfl row1 ⟨b, o, none⟩ (n + 1) cap ((q.take (n + 1)).map F) (by first | rfl | simp | (simp; omega)) (by rw [List.length_map, HLq.out]; omega) FQ5 (f_one _) (by unfold maxLen; omega) (by omega) hsz ?_; intro v2 w7 hown' hgrow _; obtain ⟨ad2, cap2, rfl⟩ := owns_shape hown')
                rw [← List.map_append] at hown'
                have fits2 : ∀ x ∈ p ++ q.take (n + 1), x < 2 ^ 64 := fun x hx => by
                  rcases List.mem_append.1 hx with h | h
                  · exact FP.fits x h
                  · exact FQ.fits x (List.mem_of_mem_take h)
                obtain ⟨F2, len2, _, _⟩ := fls_of_owns hown' fits2
                have HL2 := Lib.hid len2
                replace T5 := T5.grown hgrow hsz (owns_block row1)
                clear row1 hown' hgrow FQ5 hsz len2 fits2
                refine hK _ _ (fun _ _ => trivial) ?_
                clear hK K
                refine mix_step_k (by rfl) (fun K hK => ?_) (fun _ _ => trivial)
                go_wp2_with fail
                refine (sum_is _ _ _ _ _ F2 (by have := HL2.out; omega) (by omega)).mono ?_
                rintro e w8 ⟨rfl, hN⟩
                replace T5 := T5.trans (hN.mono T5.size)
                clear hN F2 HL2
                go_wp2_with fail
                refine hK _ _ (fun _ _ => trivial) ?_
                clear hK K
                have lsum := sumb_lt (p ++ q.take (n + 1))
                have ldob := dob_lt 2 s x hsl hxl
                refine mix_step_k (by rfl) (fun K hK => ?_) (fun _ _ => trivial)
                go_wp2_with fail
                refine (same_yes _ _ _ lsum ldob HT.out).mono ?_
                rintro e _ ⟨rfl, rfl⟩
                go_wp2_with fail
                refine hK _ _ (fun _ _ => trivial) ?_
                clear hK K
                refine mix_free_k (by rfl) (fun K hK => ?_)
                go_simp
                refine hK _ ?_
                clear hK K
                refine mix_free_k (by rfl) (fun K hK => ?_)
                go_simp
                refine hK _ ?_
                clear hK K
                refine mix_free_k (by rfl) (fun K hK => ?_)
                go_simp
                refine hK _ ?_
                clear hK K
                refine mix_free_k (by rfl) (fun K hK => ?_)
                go_simp
                refine hK _ ?_
                clear hK K
                refine mix_step_k (by rfl) (fun K hK => ?_) (fun _ _ => trivial)
                go_wp2_with fail
                have row3 := World.ownsRow_made (base := w8.heap.size) (e := 24) (size := 1) w8 #[.float .f64 x] 1 (Nat.le_refl _) (by unfold maxLen; omega) rfl
                have T6 : Below w8.heap.size w8 (w8.alloc (.cells #[.float .f64 x] 24)) := (Below.refl _ _).alloc (Nat.le_refl _) _
                have F3 : Fls (w8.alloc (.cells #[.float .f64 x] 24)) (some ⟨w8.heap.size, 0, none⟩) [x] := ⟨.inr ⟨_, _, rfl, by simp, fun i hi => by
                  have : i = 0 := by simpa using hi
                  subst this
                  simp only [World.cell?, heap_new]; rfl⟩, fun y hy => by
                  have : y = x := by simpa using hy
                  rw [this]; exact hxl⟩
                replace T5 := T5.trans (T6.mono T5.size)
                clear row3 T6
                generalize w8.alloc (.cells #[.float .f64 x] 24) = w9 at F3 T5 ⊢
                refine hK _ _ (fun _ _ => trivial) ?_
                clear hK K
                refine mix_step_k (by rfl) (fun K hK => ?_) (fun _ _ => trivial)
                go_wp2_with fail
                refine (sum_is _ _ 1 _ _ F3 rfl (by omega)).mono ?_
                rintro e w10 ⟨rfl, hN⟩
                replace T5 := T5.trans (hN.mono T5.size)
                clear hN F3
                go_wp2_with fail
                refine hK _ _ (fun _ _ => trivial) ?_
                clear hK K
                have lone := sumb_lt [x]
                have hone : (canonb (sumb [x]) == canonb x) = true := by rw [sumb_one x hxl, canonb_canonb]; simp
                have hsame := fun W => same_any (sumb [x]) x W lone hxl
                rw [hone] at hsame
                clear hone
                refine mix_step_k (by rfl) (fun K hK => ?_) (fun _ _ => trivial)
                go_wp2_with fail
                refine (hsame _).mono ?_
                rintro e _ ⟨rfl, rfl⟩
                go_wp2_with fail
                refine hK _ _ (fun _ _ => trivial) ?_
                clear hK K
                clear hsame lone
                refine mix_free_k (by rfl) (fun K hK => ?_)
                go_simp
                refine hK _ ?_
                clear hK K
                refine mix_free_k (by rfl) (fun K hK => ?_)
                go_simp
                refine hK _ ?_
                clear hK K
                refine mix_nil_k ?_
                have hB10 := hB.trans (T5.mono hB.size)
                have FP10 := FP.below T5
                have FQ10 := FQ.below T5
                clear hB FP FQ T5
                go_wp2_with fail
                go_roundw
                case rel => exact ⟨n + 1, by omega, by go_num, by rw [HT.out], FP10, FQ10, hB10⟩
                case measure => simp [intOf]; omega
              · have HA := Lib.hid hadp
                clear hadp
                refine mix_step_k (by rfl) (fun K hK => ?_) (fun _ _ => trivial)
                go_wp2_with fail
                have row0 := World.ownsRow_made (base := w4.heap.size) (e := 24) (size := 1) w4 #[] 0 (Nat.le_refl _) (Nat.zero_le _) rfl
                have T5 : Below w4.heap.size w4 (w4.alloc (.cells #[] 24)) := (Below.refl _ _).alloc (Nat.le_refl _) _
                generalize w4.alloc (.cells #[] 24) = w5 at row0 T5 ⊢
                have hsz := T5.size
                refine hK _ _ (fun _ _ => trivial) ?_
                clear hK K
                refine mix_step_k (by rfl) (fun K hK => ?_) (fun _ _ => trivial)
                have FP5 := FP.below T5
                rw [HA.out] at FP5
                replace FP5 := FP5.news
                go_wp2_with (at_builtin; refine wpList_append_own _ rfl _ _ 45 rfl w4.heap.size 24 i0 (.float .f64 0) 1 8 Try.underlying45 hi0 hz0 hz1 hz2 rfl (by decide) _ _ _ rfl row0 ap j capp (p.map F) (by show Value.slice adp j capp = _; rw [HA.out]) (by rw [List.length_map, HLP.out]; omega) FP5 (f_one p) (by unfold maxLen; omega) (by omega) hsz ?_; intro v1 w6 hown' hgrow _; obtain ⟨ad1, cap1, rfl⟩ := owns_shape hown')
                have row1 : w6.ownsRow w4.heap.size 24 1 (.slice ad1 j cap1) j (p.map F) := by rw [Nat.zero_add] at hown'; exact hown'
                replace T5 := T5.grown hgrow hsz (owns_block row0)
                replace hsz := T5.size
                clear row0 hown' hgrow FP5
                refine hK _ _ (fun _ _ => trivial) ?_
                clear hK K
                refine mix_step_k (by rfl) (fun K hK => ?_) (fun _ _ => trivial)
                have FQ5 := ((FQ.below T5).take (n + 1)).news
                have lq : (q.take (n + 1)).length = n + 1 := by rw [List.length_take, HLQ.out]; omega
                have HLq := Lib.hid lq
                clear lq
                go_wp2_with (at_builtin; refine wpList_append_own _ rfl _ _ 45 rfl w4.heap.size 24 i0 (.float .f64 0) 1 8 Try.underlying45 hi0 hz0 hz1 hz2 rfl (by decide) _ _ _ rfl row1 ⟨b, o, none⟩ (n + 1) cap ((q.take (n + 1)).map F) (by first | rfl | simp | (simp; omega)) (by rw [List.length_map, HLq.out]; omega) FQ5 (f_one _) (by unfold maxLen; omega) (by omega) hsz ?_; intro v2 w7 hown' hgrow _; obtain ⟨ad2, cap2, rfl⟩ := owns_shape hown')
                rw [← List.map_append] at hown'
                have fits2 : ∀ x ∈ p ++ q.take (n + 1), x < 2 ^ 64 := fun x hx => by
                  rcases List.mem_append.1 hx with h | h
                  · exact FP.fits x h
                  · exact FQ.fits x (List.mem_of_mem_take h)
                obtain ⟨F2, len2, _, _⟩ := fls_of_owns hown' fits2
                have HL2 := Lib.hid len2
                replace T5 := T5.grown hgrow hsz (owns_block row1)
                clear row1 hown' hgrow FQ5 hsz len2 fits2
                refine hK _ _ (fun _ _ => trivial) ?_
                clear hK K
                refine mix_step_k (by rfl) (fun K hK => ?_) (fun _ _ => trivial)
                go_wp2_with fail
                refine (sum_is _ _ _ _ _ F2 (by have := HL2.out; omega) (by omega)).mono ?_
                rintro e w8 ⟨rfl, hN⟩
                replace T5 := T5.trans (hN.mono T5.size)
                clear hN F2 HL2
                go_wp2_with fail
                refine hK _ _ (fun _ _ => trivial) ?_
                clear hK K
                have lsum := sumb_lt (p ++ q.take (n + 1))
                have ldob := dob_lt 2 s x hsl hxl
                refine mix_step_k (by rfl) (fun K hK => ?_) (fun _ _ => trivial)
                go_wp2_with fail
                refine (same_yes _ _ _ lsum ldob HT.out).mono ?_
                rintro e _ ⟨rfl, rfl⟩
                go_wp2_with fail
                refine hK _ _ (fun _ _ => trivial) ?_
                clear hK K
                refine mix_free_k (by rfl) (fun K hK => ?_)
                go_simp
                refine hK _ ?_
                clear hK K
                refine mix_free_k (by rfl) (fun K hK => ?_)
                go_simp
                refine hK _ ?_
                clear hK K
                refine mix_free_k (by rfl) (fun K hK => ?_)
                go_simp
                refine hK _ ?_
                clear hK K
                refine mix_free_k (by rfl) (fun K hK => ?_)
                go_simp
                refine hK _ ?_
                clear hK K
                refine mix_step_k (by rfl) (fun K hK => ?_) (fun _ _ => trivial)
                go_wp2_with fail
                have row3 := World.ownsRow_made (base := w8.heap.size) (e := 24) (size := 1) w8 #[.float .f64 x] 1 (Nat.le_refl _) (by unfold maxLen; omega) rfl
                have T6 : Below w8.heap.size w8 (w8.alloc (.cells #[.float .f64 x] 24)) := (Below.refl _ _).alloc (Nat.le_refl _) _
                have F3 : Fls (w8.alloc (.cells #[.float .f64 x] 24)) (some ⟨w8.heap.size, 0, none⟩) [x] := ⟨.inr ⟨_, _, rfl, by simp, fun i hi => by
                  have : i = 0 := by simpa using hi
                  subst this
                  simp only [World.cell?, heap_new]; rfl⟩, fun y hy => by
                  have : y = x := by simpa using hy
                  rw [this]; exact hxl⟩
                replace T5 := T5.trans (T6.mono T5.size)
                clear row3 T6
                generalize w8.alloc (.cells #[.float .f64 x] 24) = w9 at F3 T5 ⊢
                refine hK _ _ (fun _ _ => trivial) ?_
                clear hK K
                refine mix_step_k (by rfl) (fun K hK => ?_) (fun _ _ => trivial)
                go_wp2_with fail
                refine (sum_is _ _ 1 _ _ F3 rfl (by omega)).mono ?_
                rintro e w10 ⟨rfl, hN⟩
                replace T5 := T5.trans (hN.mono T5.size)
                clear hN F3
                go_wp2_with fail
                refine hK _ _ (fun _ _ => trivial) ?_
                clear hK K
                have lone := sumb_lt [x]
                have hone : (canonb (sumb [x]) == canonb x) = true := by rw [sumb_one x hxl, canonb_canonb]; simp
                have hsame := fun W => same_any (sumb [x]) x W lone hxl
                rw [hone] at hsame
                clear hone
                refine mix_step_k (by rfl) (fun K hK => ?_) (fun _ _ => trivial)
                go_wp2_with fail
                refine (hsame _).mono ?_
                rintro e _ ⟨rfl, rfl⟩
                go_wp2_with fail
                refine hK _ _ (fun _ _ => trivial) ?_
                clear hK K
                clear hsame lone
                refine mix_free_k (by rfl) (fun K hK => ?_)
                go_simp
                refine hK _ ?_
                clear hK K
                refine mix_free_k (by rfl) (fun K hK => ?_)
                go_simp
                refine hK _ ?_
                clear hK K
                refine mix_nil_k ?_
                have hB10 := hB.trans (T5.mono hB.size)
                have FP10 := FP.below T5
                have FQ10 := FQ.below T5
                clear hB FP FQ T5
                go_wp2_with fail
                go_roundw
                case rel => exact ⟨n + 1, by omega, by go_num, by rw [HT.out], FP10, FQ10, hB10⟩
                case measure => simp [intOf]; omega
            · have en : n = t := by omega
              subst en
              rw [show q.take n = q from List.take_of_length_le (by rw [HLQ.out]; omega)]
              clear hlt hn
              rcases Nat.eq_zero_or_pos j with hj0 | hj0 <;> rcases Nat.eq_zero_or_pos n with hn0 | hn0
              · have HJP := Lib.hid hj0
                have HAP := Lib.hid (HZP.out hj0)
                have HCP := Lib.hid (HNP.out HAP.out).2
                have HP0 : Hid (p = []) := Lib.hid (List.eq_nil_of_length_eq_zero (by rw [HLP.out, HJP.out]))
                have lenP : decide ((0 : Int) < (j : Int)) = false := by rw [HJP.out]; rfl
                clear hj0
                have HJQ := Lib.hid hn0
                have HAQ := Lib.hid (HZQ.out hn0)
                have HCQ := Lib.hid (HNQ.out HAQ.out).2
                have HQ0 : Hid (q = []) := Lib.hid (List.eq_nil_of_length_eq_zero (by rw [HLQ.out, HJQ.out]))
                have lenQ : decide ((0 : Int) < (n : Int)) = false := by rw [HJQ.out]; rfl
                clear hn0
                go_wp2_with fail
                refine (least_zero _ _ _ _ HJP.out).mono ?_
                rintro e _ ⟨rfl, rfl⟩
                go_wp2_with fail
                refine (least_zero _ _ _ _ HJQ.out).mono ?_
                rintro e _ ⟨rfl, rfl⟩
                have row0 := World.ownsRow_made (base := wr.heap.size) (e := 24) (size := 1) wr #[] 0 (Nat.le_refl _) (Nat.zero_le _) rfl
                have T5 : Below wr.heap.size wr (wr.alloc (.cells #[] 24)) := (Below.refl _ _).alloc (Nat.le_refl _) _
                have hsz := T5.size
                go_wp2_with (at_builtin; first | (refine wpList_append_own_none rfl _ _ 45 rfl wr.heap.size 24 i0 1 Try.underlying45 hi0 _ _ _ rfl row0 (by show Value.slice adp j capp = _; rw [HAP.out, HJP.out, HCP.out]) ?_; have row1 : (wr.alloc (.cells #[] 24)).ownsRow wr.heap.size 24 1 (.slice (some ⟨wr.heap.size, 0, none⟩) 0 0) 0 (p.map F) := (by rw [HP0.out]; exact row0); have T6 := T5; have hsz6 := hsz) | (refine wpList_append_own_none rfl _ _ 45 rfl wr.heap.size 24 i0 1 Try.underlying45 hi0 _ _ _ rfl row1 (by show Value.slice ad n cap = _; rw [HAQ.out, HJQ.out, HCQ.out]) ?_; have row2 : (wr.alloc (.cells #[] 24)).ownsRow wr.heap.size 24 1 (.slice (some ⟨wr.heap.size, 0, none⟩) 0 0) 0 ((p ++ q).map F) := (by rw [HQ0.out, List.append_nil]; exact row1); have T7 := T6; have hsz7 := hsz6))
                refine (least_zero _ _ _ _ rfl).mono ?_
                rintro e _ ⟨rfl, rfl⟩
                replace FP := FP.below T7
                replace FQ := FQ.below T7
                replace hB := hB.trans (T7.mono hB.size)
                clear row0 T5 hsz row1 T6 hsz6 row2 T7 hsz7
                generalize wr.alloc (.cells #[] 24) = v3 at FP FQ hB ⊢
                have row0 := World.ownsRow_made (base := v3.heap.size) (e := 24) (size := 1) v3 #[] 0 (Nat.le_refl _) (Nat.zero_le _) rfl
                have T5 : Below v3.heap.size v3 (v3.alloc (.cells #[] 24)) := (Below.refl _ _).alloc (Nat.le_refl _) _
                have hsz := T5.size
                go_wp2_with (at_builtin; first | (refine wpList_append_own_none rfl _ _ 45 rfl v3.heap.size 24 i0 1 Try.underlying45 hi0 _ _ _ rfl row0 (by show Value.slice ad n cap = _; rw [HAQ.out, HJQ.out, HCQ.out]) ?_; have row1 : (v3.alloc (.cells #[] 24)).ownsRow v3.heap.size 24 1 (.slice (some ⟨v3.heap.size, 0, none⟩) 0 0) 0 (q.map F) := (by rw [HQ0.out]; exact row0); have T6 := T5; have hsz6 := hsz) | (refine wpList_append_own_none rfl _ _ 45 rfl v3.heap.size 24 i0 1 Try.underlying45 hi0 _ _ _ rfl row1 (by show Value.slice adp j capp = _; rw [HAP.out, HJP.out, HCP.out]) ?_; have row2 : (v3.alloc (.cells #[] 24)).ownsRow v3.heap.size 24 1 (.slice (some ⟨v3.heap.size, 0, none⟩) 0 0) 0 ((q ++ p).map F) := (by rw [HP0.out, List.append_nil]; exact row1); have T7 := T6; have hsz7 := hsz6))
                refine (least_zero _ _ _ _ rfl).mono ?_
                rintro e _ ⟨rfl, rfl⟩
                replace FP := FP.below T7
                replace FQ := FQ.below T7
                replace hB := hB.trans (T7.mono hB.size)
                clear row0 T5 hsz row1 T6 hsz6 row2 T7 hsz7
                generalize v3.alloc (.cells #[] 24) = v6 at FP FQ hB ⊢
                have lenPQ : decide ((0 : Int) < (j : Int) + (n : Int)) = false := by rw [HJP.out, HJQ.out]; rfl
                have fpq : ∀ x ∈ p ++ q, x < 2 ^ 64 := fun x hx => by
                  rcases List.mem_append.1 hx with h | h
                  · exact FP.fits x h
                  · exact FQ.fits x h
                have fqp : ∀ x ∈ q ++ p, x < 2 ^ 64 := fun x hx => by
                  rcases List.mem_append.1 hx with h | h
                  · exact FQ.fits x h
                  · exact FP.fits x h
                have l1 := leastl_lt _ fpq
                have l2 := leastl_lt _ fqp
                have l3 := leastl_lt _ FP.fits
                have l4 := leastl_lt _ FQ.fits
                have hcm := Lib.hid (leastl_comm p q FP.fits FQ.fits)
                have ffp := FP.fits
                have ffq := FQ.fits
                clear FP FQ fpq fqp
                go_wp2_with fail
                refine (same_yes 0 0 _ (by decide) (by decide) rfl).mono ?_
                rintro e _ ⟨rfl, rfl⟩
                go_wp2_with fail
                refine (same_yes 0 0 _ (by decide) (by decide) rfl).mono ?_
                rintro e _ ⟨rfl, rfl⟩
                go_wp2_with fail
                go_ret
                exact ⟨rfl, hB⟩
              · have HJP := Lib.hid hj0
                have HAP := Lib.hid (HZP.out hj0)
                have HCP := Lib.hid (HNP.out HAP.out).2
                have HP0 : Hid (p = []) := Lib.hid (List.eq_nil_of_length_eq_zero (by rw [HLP.out, HJP.out]))
                have lenP : decide ((0 : Int) < (j : Int)) = false := by rw [HJP.out]; rfl
                clear hj0
                have lenQ : decide ((0 : Int) < (n : Int)) = true := decide_eq_true (by omega)
                obtain ⟨aQ, hAQ⟩ : ∃ a, ad = some a := by
                  cases hx : ad with
                  | some a => exact ⟨a, rfl⟩
                  | none => have := (HNQ.out hx).1; omega
                have HAQ := Lib.hid hAQ
                clear hAQ
                have NEQ : Hid (q ≠ []) := Lib.hid (fun h => by have := HLQ.out; rw [h] at this; simp at this; omega)
                go_wp2_with fail
                refine (least_zero _ _ _ _ HJP.out).mono ?_
                rintro e _ ⟨rfl, rfl⟩
                go_wp2_with fail
                refine (least_is _ _ _ q _ FQ HLQ.out (by omega) (by omega)).mono ?_
                rintro e v7 ⟨rfl, hN⟩
                replace FP := FP.below hN
                replace FQ := FQ.below hN
                replace hB := hB.trans (hN.mono hB.size)
                clear hN
                have row0 := World.ownsRow_made (base := v7.heap.size) (e := 24) (size := 1) v7 #[] 0 (Nat.le_refl _) (Nat.zero_le _) rfl
                have T5 : Below v7.heap.size v7 (v7.alloc (.cells #[] 24)) := (Below.refl _ _).alloc (Nat.le_refl _) _
                have hsz := T5.size
                go_wp2_with (at_builtin; first | (refine wpList_append_own_none rfl _ _ 45 rfl v7.heap.size 24 i0 1 Try.underlying45 hi0 _ _ _ rfl row0 (by show Value.slice adp j capp = _; rw [HAP.out, HJP.out, HCP.out]) ?_; have row1 : (v7.alloc (.cells #[] 24)).ownsRow v7.heap.size 24 1 (.slice (some ⟨v7.heap.size, 0, none⟩) 0 0) 0 (p.map F) := (by rw [HP0.out]; exact row0); have T6 := T5; have hsz6 := hsz) | (have NQ := FQ.below T6; rw [HAQ.out] at NQ; replace NQ := NQ.news; refine wpList_append_own _ rfl _ _ 45 rfl v7.heap.size 24 i0 (.float .f64 0) 1 8 Try.underlying45 hi0 hz0 hz1 hz2 rfl (by decide) _ _ _ rfl row1 _ n cap (q.map F) (by show Value.slice ad n cap = _; rw [HAQ.out]) (by rw [List.length_map, HLQ.out]; omega) NQ (f_one _) (by unfold maxLen; omega) (by omega) hsz6 ?_; intro v2 v9 hown hgrow _; obtain ⟨ad2, cap2, rfl⟩ := owns_shape hown; have row2 : v9.ownsRow v7.heap.size 24 1 (.slice ad2 n cap2) n ((p ++ q).map F) := (by first | exact hown | (rw [Nat.zero_add] at hown; first | exact hown | (rw [← List.map_append] at hown; exact hown)) | (rw [← List.map_append] at hown; exact hown)); have T7 := T6.grown hgrow hsz6 (owns_block row1); have hsz7 := T7.size; clear hown hgrow NQ))
                have fits2 : ∀ x ∈ (p ++ q), x < 2 ^ 64 := fun x hx => by
                  rcases List.mem_append.1 hx with h | h
                  · exact FP.fits x h
                  · exact FQ.fits x h
                obtain ⟨F2, len2, _, _⟩ := fls_of_owns row2 fits2
                refine (least_is _ _ _ _ _ F2 (by omega) (by omega) (by omega)).mono ?_
                rintro e v10 ⟨rfl, hN⟩
                replace T7 := T7.trans (hN.mono hsz7)
                clear hN F2 len2 fits2
                replace FP := FP.below T7
                replace FQ := FQ.below T7
                replace hB := hB.trans (T7.mono hB.size)
                clear row0 T5 hsz row1 T6 hsz6 row2 T7 hsz7
                have row0 := World.ownsRow_made (base := v10.heap.size) (e := 24) (size := 1) v10 #[] 0 (Nat.le_refl _) (Nat.zero_le _) rfl
                have T5 : Below v10.heap.size v10 (v10.alloc (.cells #[] 24)) := (Below.refl _ _).alloc (Nat.le_refl _) _
                have hsz := T5.size
                go_wp2_with (at_builtin; first | (have NQ := FQ.below T5; rw [HAQ.out] at NQ; replace NQ := NQ.news; refine wpList_append_own _ rfl _ _ 45 rfl v10.heap.size 24 i0 (.float .f64 0) 1 8 Try.underlying45 hi0 hz0 hz1 hz2 rfl (by decide) _ _ _ rfl row0 _ n cap (q.map F) (by show Value.slice ad n cap = _; rw [HAQ.out]) (by rw [List.length_map, HLQ.out]; omega) NQ (f_one _) (by unfold maxLen; omega) (by omega) hsz ?_; intro v2 v11 hown hgrow _; obtain ⟨ad1, cap1, rfl⟩ := owns_shape hown; have row1 : v11.ownsRow v10.heap.size 24 1 (.slice ad1 n cap1) n (q.map F) := (by first | exact hown | (rw [Nat.zero_add] at hown; first | exact hown | (rw [← List.map_append] at hown; exact hown)) | (rw [← List.map_append] at hown; exact hown)); have T6 := T5.grown hgrow hsz (owns_block row0); have hsz6 := T6.size; clear hown hgrow NQ) | (refine wpList_append_own_none rfl _ _ 45 rfl v10.heap.size 24 i0 1 Try.underlying45 hi0 _ _ _ rfl row1 (by show Value.slice adp j capp = _; rw [HAP.out, HJP.out, HCP.out]) ?_; have row2 : v11.ownsRow v10.heap.size 24 1 (.slice ad1 n cap1) n ((q ++ p).map F) := (by rw [HP0.out, List.append_nil]; exact row1); have T7 := T6; have hsz7 := hsz6))
                have fits2 : ∀ x ∈ (q ++ p), x < 2 ^ 64 := fun x hx => by
                  rcases List.mem_append.1 hx with h | h
                  · exact FQ.fits x h
                  · exact FP.fits x h
                obtain ⟨F2, len2, _, _⟩ := fls_of_owns row2 fits2
                refine (least_is _ _ _ _ _ F2 (by omega) (by omega) (by omega)).mono ?_
                rintro e v13 ⟨rfl, hN⟩
                replace T7 := T7.trans (hN.mono hsz7)
                clear hN F2 len2 fits2
                replace FP := FP.below T7
                replace FQ := FQ.below T7
                replace hB := hB.trans (T7.mono hB.size)
                clear row0 T5 hsz row1 T6 hsz6 row2 T7 hsz7
                have lenPQ : decide ((0 : Int) < (j : Int) + (n : Int)) = true := decide_eq_true (by omega)
                have fpq : ∀ x ∈ p ++ q, x < 2 ^ 64 := fun x hx => by
                  rcases List.mem_append.1 hx with h | h
                  · exact FP.fits x h
                  · exact FQ.fits x h
                have fqp : ∀ x ∈ q ++ p, x < 2 ^ 64 := fun x hx => by
                  rcases List.mem_append.1 hx with h | h
                  · exact FQ.fits x h
                  · exact FP.fits x h
                have l1 := leastl_lt _ fpq
                have l2 := leastl_lt _ fqp
                have l3 := leastl_lt _ FP.fits
                have l4 := leastl_lt _ FQ.fits
                have hcm := Lib.hid (leastl_comm p q FP.fits FQ.fits)
                have ffp := FP.fits
                have ffq := FQ.fits
                clear FP FQ fpq fqp
                go_wp2_with fail
                refine (same_yes _ _ _ l1 l2 hcm.out).mono ?_
                rintro e _ ⟨rfl, rfl⟩
                go_wp2_with fail
                refine (same_yes _ _ _ l1 l4 (by rw [HP0.out, List.nil_append])).mono ?_
                rintro e _ ⟨rfl, rfl⟩
                go_wp2_with fail
                go_ret
                exact ⟨rfl, hB⟩
              · have lenP : decide ((0 : Int) < (j : Int)) = true := decide_eq_true (by omega)
                obtain ⟨aP, hAP⟩ : ∃ a, adp = some a := by
                  cases hx : adp with
                  | some a => exact ⟨a, rfl⟩
                  | none => have := (HNP.out hx).1; omega
                have HAP := Lib.hid hAP
                clear hAP
                have NEP : Hid (p ≠ []) := Lib.hid (fun h => by have := HLP.out; rw [h] at this; simp at this; omega)
                have HJQ := Lib.hid hn0
                have HAQ := Lib.hid (HZQ.out hn0)
                have HCQ := Lib.hid (HNQ.out HAQ.out).2
                have HQ0 : Hid (q = []) := Lib.hid (List.eq_nil_of_length_eq_zero (by rw [HLQ.out, HJQ.out]))
                have lenQ : decide ((0 : Int) < (n : Int)) = false := by rw [HJQ.out]; rfl
                clear hn0
                go_wp2_with fail
                refine (least_is _ _ _ p _ FP HLP.out (by omega) (by omega)).mono ?_
                rintro e v14 ⟨rfl, hN⟩
                replace FP := FP.below hN
                replace FQ := FQ.below hN
                replace hB := hB.trans (hN.mono hB.size)
                clear hN
                go_wp2_with fail
                refine (least_zero _ _ _ _ HJQ.out).mono ?_
                rintro e _ ⟨rfl, rfl⟩
                have row0 := World.ownsRow_made (base := v14.heap.size) (e := 24) (size := 1) v14 #[] 0 (Nat.le_refl _) (Nat.zero_le _) rfl
                have T5 : Below v14.heap.size v14 (v14.alloc (.cells #[] 24)) := (Below.refl _ _).alloc (Nat.le_refl _) _
                have hsz := T5.size
                go_wp2_with (at_builtin; first | (have NP := FP.below T5; rw [HAP.out] at NP; replace NP := NP.news; refine wpList_append_own _ rfl _ _ 45 rfl v14.heap.size 24 i0 (.float .f64 0) 1 8 Try.underlying45 hi0 hz0 hz1 hz2 rfl (by decide) _ _ _ rfl row0 _ j capp (p.map F) (by show Value.slice adp j capp = _; rw [HAP.out]) (by rw [List.length_map, HLP.out]; omega) NP (f_one _) (by unfold maxLen; omega) (by omega) hsz ?_; intro v2 v15 hown hgrow _; obtain ⟨ad1, cap1, rfl⟩ := owns_shape hown; have row1 : v15.ownsRow v14.heap.size 24 1 (.slice ad1 j cap1) j (p.map F) := (by first | exact hown | (rw [Nat.zero_add] at hown; first | exact hown | (rw [← List.map_append] at hown; exact hown)) | (rw [← List.map_append] at hown; exact hown)); have T6 := T5.grown hgrow hsz (owns_block row0); have hsz6 := T6.size; clear hown hgrow NP) | (refine wpList_append_own_none rfl _ _ 45 rfl v14.heap.size 24 i0 1 Try.underlying45 hi0 _ _ _ rfl row1 (by show Value.slice ad n cap = _; rw [HAQ.out, HJQ.out, HCQ.out]) ?_; have row2 : v15.ownsRow v14.heap.size 24 1 (.slice ad1 j cap1) j ((p ++ q).map F) := (by rw [HQ0.out, List.append_nil]; exact row1); have T7 := T6; have hsz7 := hsz6))
                have fits2 : ∀ x ∈ (p ++ q), x < 2 ^ 64 := fun x hx => by
                  rcases List.mem_append.1 hx with h | h
                  · exact FP.fits x h
                  · exact FQ.fits x h
                obtain ⟨F2, len2, _, _⟩ := fls_of_owns row2 fits2
                refine (least_is _ _ _ _ _ F2 (by omega) (by omega) (by omega)).mono ?_
                rintro e v17 ⟨rfl, hN⟩
                replace T7 := T7.trans (hN.mono hsz7)
                clear hN F2 len2 fits2
                replace FP := FP.below T7
                replace FQ := FQ.below T7
                replace hB := hB.trans (T7.mono hB.size)
                clear row0 T5 hsz row1 T6 hsz6 row2 T7 hsz7
                have row0 := World.ownsRow_made (base := v17.heap.size) (e := 24) (size := 1) v17 #[] 0 (Nat.le_refl _) (Nat.zero_le _) rfl
                have T5 : Below v17.heap.size v17 (v17.alloc (.cells #[] 24)) := (Below.refl _ _).alloc (Nat.le_refl _) _
                have hsz := T5.size
                go_wp2_with (at_builtin; first | (refine wpList_append_own_none rfl _ _ 45 rfl v17.heap.size 24 i0 1 Try.underlying45 hi0 _ _ _ rfl row0 (by show Value.slice ad n cap = _; rw [HAQ.out, HJQ.out, HCQ.out]) ?_; have row1 : (v17.alloc (.cells #[] 24)).ownsRow v17.heap.size 24 1 (.slice (some ⟨v17.heap.size, 0, none⟩) 0 0) 0 (q.map F) := (by rw [HQ0.out]; exact row0); have T6 := T5; have hsz6 := hsz) | (have NP := FP.below T6; rw [HAP.out] at NP; replace NP := NP.news; refine wpList_append_own _ rfl _ _ 45 rfl v17.heap.size 24 i0 (.float .f64 0) 1 8 Try.underlying45 hi0 hz0 hz1 hz2 rfl (by decide) _ _ _ rfl row1 _ j capp (p.map F) (by show Value.slice adp j capp = _; rw [HAP.out]) (by rw [List.length_map, HLP.out]; omega) NP (f_one _) (by unfold maxLen; omega) (by omega) hsz6 ?_; intro v2 v19 hown hgrow _; obtain ⟨ad2, cap2, rfl⟩ := owns_shape hown; have row2 : v19.ownsRow v17.heap.size 24 1 (.slice ad2 j cap2) j ((q ++ p).map F) := (by first | exact hown | (rw [Nat.zero_add] at hown; first | exact hown | (rw [← List.map_append] at hown; exact hown)) | (rw [← List.map_append] at hown; exact hown)); have T7 := T6.grown hgrow hsz6 (owns_block row1); have hsz7 := T7.size; clear hown hgrow NP))
                have fits2 : ∀ x ∈ (q ++ p), x < 2 ^ 64 := fun x hx => by
                  rcases List.mem_append.1 hx with h | h
                  · exact FQ.fits x h
                  · exact FP.fits x h
                obtain ⟨F2, len2, _, _⟩ := fls_of_owns row2 fits2
                refine (least_is _ _ _ _ _ F2 (by omega) (by omega) (by omega)).mono ?_
                rintro e v20 ⟨rfl, hN⟩
                replace T7 := T7.trans (hN.mono hsz7)
                clear hN F2 len2 fits2
                replace FP := FP.below T7
                replace FQ := FQ.below T7
                replace hB := hB.trans (T7.mono hB.size)
                clear row0 T5 hsz row1 T6 hsz6 row2 T7 hsz7
                have lenPQ : decide ((0 : Int) < (j : Int) + (n : Int)) = true := decide_eq_true (by omega)
                have fpq : ∀ x ∈ p ++ q, x < 2 ^ 64 := fun x hx => by
                  rcases List.mem_append.1 hx with h | h
                  · exact FP.fits x h
                  · exact FQ.fits x h
                have fqp : ∀ x ∈ q ++ p, x < 2 ^ 64 := fun x hx => by
                  rcases List.mem_append.1 hx with h | h
                  · exact FQ.fits x h
                  · exact FP.fits x h
                have l1 := leastl_lt _ fpq
                have l2 := leastl_lt _ fqp
                have l3 := leastl_lt _ FP.fits
                have l4 := leastl_lt _ FQ.fits
                have hcm := Lib.hid (leastl_comm p q FP.fits FQ.fits)
                have ffp := FP.fits
                have ffq := FQ.fits
                clear FP FQ fpq fqp
                go_wp2_with fail
                refine (same_yes _ _ _ l1 l2 hcm.out).mono ?_
                rintro e _ ⟨rfl, rfl⟩
                go_wp2_with fail
                refine (same_yes _ _ _ l1 l3 (by rw [HQ0.out, List.append_nil])).mono ?_
                rintro e _ ⟨rfl, rfl⟩
                go_wp2_with fail
                go_ret
                exact ⟨rfl, hB⟩
              · have lenP : decide ((0 : Int) < (j : Int)) = true := decide_eq_true (by omega)
                obtain ⟨aP, hAP⟩ : ∃ a, adp = some a := by
                  cases hx : adp with
                  | some a => exact ⟨a, rfl⟩
                  | none => have := (HNP.out hx).1; omega
                have HAP := Lib.hid hAP
                clear hAP
                have NEP : Hid (p ≠ []) := Lib.hid (fun h => by have := HLP.out; rw [h] at this; simp at this; omega)
                have lenQ : decide ((0 : Int) < (n : Int)) = true := decide_eq_true (by omega)
                obtain ⟨aQ, hAQ⟩ : ∃ a, ad = some a := by
                  cases hx : ad with
                  | some a => exact ⟨a, rfl⟩
                  | none => have := (HNQ.out hx).1; omega
                have HAQ := Lib.hid hAQ
                clear hAQ
                have NEQ : Hid (q ≠ []) := Lib.hid (fun h => by have := HLQ.out; rw [h] at this; simp at this; omega)
                go_wp2_with fail
                refine (least_is _ _ _ p _ FP HLP.out (by omega) (by omega)).mono ?_
                rintro e v21 ⟨rfl, hN⟩
                replace FP := FP.below hN
                replace FQ := FQ.below hN
                replace hB := hB.trans (hN.mono hB.size)
                clear hN
                go_wp2_with fail
                refine (least_is _ _ _ q _ FQ HLQ.out (by omega) (by omega)).mono ?_
                rintro e v22 ⟨rfl, hN⟩
                replace FP := FP.below hN
                replace FQ := FQ.below hN
                replace hB := hB.trans (hN.mono hB.size)
                clear hN
                have row0 := World.ownsRow_made (base := v22.heap.size) (e := 24) (size := 1) v22 #[] 0 (Nat.le_refl _) (Nat.zero_le _) rfl
                have T5 : Below v22.heap.size v22 (v22.alloc (.cells #[] 24)) := (Below.refl _ _).alloc (Nat.le_refl _) _
                have hsz := T5.size
                go_wp2_with (at_builtin; first | (have NP := FP.below T5; rw [HAP.out] at NP; replace NP := NP.news; refine wpList_append_own _ rfl _ _ 45 rfl v22.heap.size 24 i0 (.float .f64 0) 1 8 Try.underlying45 hi0 hz0 hz1 hz2 rfl (by decide) _ _ _ rfl row0 _ j capp (p.map F) (by show Value.slice adp j capp = _; rw [HAP.out]) (by rw [List.length_map, HLP.out]; omega) NP (f_one _) (by unfold maxLen; omega) (by omega) hsz ?_; intro v2 v23 hown hgrow _; obtain ⟨ad1, cap1, rfl⟩ := owns_shape hown; have row1 : v23.ownsRow v22.heap.size 24 1 (.slice ad1 j cap1) j (p.map F) := (by first | exact hown | (rw [Nat.zero_add] at hown; first | exact hown | (rw [← List.map_append] at hown; exact hown)) | (rw [← List.map_append] at hown; exact hown)); have T6 := T5.grown hgrow hsz (owns_block row0); have hsz6 := T6.size; clear hown hgrow NP) | (have NQ := FQ.below T6; rw [HAQ.out] at NQ; replace NQ := NQ.news; refine wpList_append_own _ rfl _ _ 45 rfl v22.heap.size 24 i0 (.float .f64 0) 1 8 Try.underlying45 hi0 hz0 hz1 hz2 rfl (by decide) _ _ _ rfl row1 _ n cap (q.map F) (by show Value.slice ad n cap = _; rw [HAQ.out]) (by rw [List.length_map, HLQ.out]; omega) NQ (f_one _) (by unfold maxLen; omega) (by omega) hsz6 ?_; intro v2 v24 hown hgrow _; obtain ⟨ad2, cap2, rfl⟩ := owns_shape hown; have row2 : v24.ownsRow v22.heap.size 24 1 (.slice ad2 (j + n) cap2) (j + n) ((p ++ q).map F) := (by first | exact hown | (rw [Nat.zero_add] at hown; first | exact hown | (rw [← List.map_append] at hown; exact hown)) | (rw [← List.map_append] at hown; exact hown)); have T7 := T6.grown hgrow hsz6 (owns_block row1); have hsz7 := T7.size; clear hown hgrow NQ))
                have fits2 : ∀ x ∈ (p ++ q), x < 2 ^ 64 := fun x hx => by
                  rcases List.mem_append.1 hx with h | h
                  · exact FP.fits x h
                  · exact FQ.fits x h
                obtain ⟨F2, len2, _, _⟩ := fls_of_owns row2 fits2
                refine (least_is _ _ _ _ _ F2 (by omega) (by omega) (by omega)).mono ?_
                rintro e v25 ⟨rfl, hN⟩
                replace T7 := T7.trans (hN.mono hsz7)
                clear hN F2 len2 fits2
                replace FP := FP.below T7
                replace FQ := FQ.below T7
                replace hB := hB.trans (T7.mono hB.size)
                clear row0 T5 hsz row1 T6 hsz6 row2 T7 hsz7
                have row0 := World.ownsRow_made (base := v25.heap.size) (e := 24) (size := 1) v25 #[] 0 (Nat.le_refl _) (Nat.zero_le _) rfl
                have T5 : Below v25.heap.size v25 (v25.alloc (.cells #[] 24)) := (Below.refl _ _).alloc (Nat.le_refl _) _
                have hsz := T5.size
                go_wp2_with (at_builtin; first | (have NQ := FQ.below T5; rw [HAQ.out] at NQ; replace NQ := NQ.news; refine wpList_append_own _ rfl _ _ 45 rfl v25.heap.size 24 i0 (.float .f64 0) 1 8 Try.underlying45 hi0 hz0 hz1 hz2 rfl (by decide) _ _ _ rfl row0 _ n cap (q.map F) (by show Value.slice ad n cap = _; rw [HAQ.out]) (by rw [List.length_map, HLQ.out]; omega) NQ (f_one _) (by unfold maxLen; omega) (by omega) hsz ?_; intro v2 v26 hown hgrow _; obtain ⟨ad1, cap1, rfl⟩ := owns_shape hown; have row1 : v26.ownsRow v25.heap.size 24 1 (.slice ad1 n cap1) n (q.map F) := (by first | exact hown | (rw [Nat.zero_add] at hown; first | exact hown | (rw [← List.map_append] at hown; exact hown)) | (rw [← List.map_append] at hown; exact hown)); have T6 := T5.grown hgrow hsz (owns_block row0); have hsz6 := T6.size; clear hown hgrow NQ) | (have NP := FP.below T6; rw [HAP.out] at NP; replace NP := NP.news; refine wpList_append_own _ rfl _ _ 45 rfl v25.heap.size 24 i0 (.float .f64 0) 1 8 Try.underlying45 hi0 hz0 hz1 hz2 rfl (by decide) _ _ _ rfl row1 _ j capp (p.map F) (by show Value.slice adp j capp = _; rw [HAP.out]) (by rw [List.length_map, HLP.out]; omega) NP (f_one _) (by unfold maxLen; omega) (by omega) hsz6 ?_; intro v2 v27 hown hgrow _; obtain ⟨ad2, cap2, rfl⟩ := owns_shape hown; have row2 : v27.ownsRow v25.heap.size 24 1 (.slice ad2 (n + j) cap2) (n + j) ((q ++ p).map F) := (by first | exact hown | (rw [Nat.zero_add] at hown; first | exact hown | (rw [← List.map_append] at hown; exact hown)) | (rw [← List.map_append] at hown; exact hown)); have T7 := T6.grown hgrow hsz6 (owns_block row1); have hsz7 := T7.size; clear hown hgrow NP))
                have fits2 : ∀ x ∈ (q ++ p), x < 2 ^ 64 := fun x hx => by
                  rcases List.mem_append.1 hx with h | h
                  · exact FQ.fits x h
                  · exact FP.fits x h
                obtain ⟨F2, len2, _, _⟩ := fls_of_owns row2 fits2
                refine (least_is _ _ _ _ _ F2 (by omega) (by omega) (by omega)).mono ?_
                rintro e v28 ⟨rfl, hN⟩
                replace T7 := T7.trans (hN.mono hsz7)
                clear hN F2 len2 fits2
                replace FP := FP.below T7
                replace FQ := FQ.below T7
                replace hB := hB.trans (T7.mono hB.size)
                clear row0 T5 hsz row1 T6 hsz6 row2 T7 hsz7
                have lenPQ : decide ((0 : Int) < (j : Int) + (n : Int)) = true := decide_eq_true (by omega)
                have fpq : ∀ x ∈ p ++ q, x < 2 ^ 64 := fun x hx => by
                  rcases List.mem_append.1 hx with h | h
                  · exact FP.fits x h
                  · exact FQ.fits x h
                have fqp : ∀ x ∈ q ++ p, x < 2 ^ 64 := fun x hx => by
                  rcases List.mem_append.1 hx with h | h
                  · exact FQ.fits x h
                  · exact FP.fits x h
                have l1 := leastl_lt _ fpq
                have l2 := leastl_lt _ fqp
                have l3 := leastl_lt _ FP.fits
                have l4 := leastl_lt _ FQ.fits
                have hcm := Lib.hid (leastl_comm p q FP.fits FQ.fits)
                have ffp := FP.fits
                have ffq := FQ.fits
                clear FP FQ fpq fqp
                go_wp2_with fail
                refine (same_yes _ _ _ l1 l2 hcm.out).mono ?_
                rintro e _ ⟨rfl, rfl⟩
                go_wp2_with fail
                refine (do10_any 6 (by omega) (by omega) _ _ _ l3 l4).mono ?_
                rintro e v29 ⟨rfl, hN⟩
                replace hB := hB.trans (hN.mono hB.size)
                clear hN
                go_wp2_with fail
                refine (same_yes _ _ _ l1 (dob_lt 6 _ _ l3 l4) (leastl_append p q NEP.out NEQ.out ffp ffq)).mono ?_
                rintro e _ ⟨rfl, rfl⟩
                go_wp2_with fail
                go_ret
                exact ⟨rfl, hB⟩
end Go.Proofs.Ytajipgcnpemifaa
