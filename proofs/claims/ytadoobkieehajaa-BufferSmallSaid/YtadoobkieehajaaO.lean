/- The walk of BufferFinds. -/
import Derived.Test.YtadoobkieehajaaN
namespace Go.Proofs.Ytadoobkieehajaa
open Go.RowKit Go.Shelf

theorem findFrom_spec (l s : List UInt8) : ∀ (n i k : Nat), i ≤ k → k < i + n → hit l s k = true → ∃ j, i ≤ j ∧ j ≤ k ∧ hit l s j = true ∧ (∀ t, i ≤ t → t < j → hit l s t = false) ∧ findFrom l s n i = j
  | 0, i, k, h1, h2, _ => by omega
  | n + 1, i, k, h1, h2, h3 => by
    cases h : hit l s i with
    | true => exact ⟨i, Nat.le_refl _, h1, h, fun t a b => by omega, by rw [findFrom, if_pos h]⟩
    | false =>
      have hik : i ≠ k := fun e => by rw [e, h3] at h; cases h
      obtain ⟨j, a1, a2, a3, a4, a5⟩ := findFrom_spec l s n (i + 1) k (by omega) (by omega) h3
      refine ⟨j, by omega, a2, a3, fun t b1 b2 => ?_, by rw [findFrom, if_neg (by rw [h]; decide)]; exact a5⟩
      by_cases e : t = i
      · rw [e]; exact h
      · exact a4 t (by omega) b2

theorem findR_spec (l s : List UInt8) (k : Nat) (h : hit l s k = true) : ∃ j, j ≤ k ∧ hit l s j = true ∧ (∀ t, t < j → hit l s t = false) ∧ findR l s 0 = j := by
  have hk := hit_le h
  obtain ⟨j, _, a2, a3, a4, a5⟩ := findFrom_spec l s (l.length + 1 - s.length - 0) 0 k (Nat.zero_le _) (by omega) h
  exact ⟨j, a2, a3, fun t b => a4 t (Nat.zero_le _) b, a5⟩

theorem hit_part (l : List UInt8) (i k : Nat) (h : i + k ≤ l.length) : hit l ((l.drop i).take k) i = true := by
  have : ((l.drop i).take k).length = k := by simp; omega
  simp only [hit, this, Bool.and_eq_true, decide_eq_true_eq, beq_iff_eq]
  exact ⟨h, trivial⟩

theorem hit_eq {l s : List UInt8} {j : Nat} (h : hit l s j = true) : (l.drop j).take s.length = s := by
  simp only [hit, Bool.and_eq_true, decide_eq_true_eq, beq_iff_eq] at h
  exact h.2

theorem hit_nil (l : List UInt8) (j : Nat) (h : j ≤ l.length) : hit l [] j = true := by simp [hit, h]

theorem Slc.add {w : World} {ad : Option Addr} {xs : List UInt8} (h : Slc w ad xs) (n : Nat) : Slc w (ad.map fun x => x.add n) (xs.drop n) := by
  rcases h with rfl | ⟨b, off, rfl, hb, hc⟩
  · exact .inl (by simp)
  · refine .inr ⟨b, off + n, by simp [Go.WideShapes.add_plain], hb, fun j hj => ?_⟩
    have := hc (n + j) (by simp at hj; omega)
    rw [show off + (n + j) = off + n + j by omega] at this
    rw [this]
    simp

theorem min3_some (x s : Nat) : ∃ M : Nat, M ≤ x ∧ M ≤ s ∧ M ≤ 200 ∧ (if (s : Int) < (if (200 : Int) < (x : Int) then (200 : Int) else (x : Int)) then (s : Int) else (if (200 : Int) < (x : Int) then (200 : Int) else (x : Int))) = (M : Int) ∧ max (M : Int) 0 = M := by
  by_cases h : (200 : Int) < x
  · by_cases h2 : (s : Int) < 200
    · exact ⟨s, by omega, by omega, by omega, by simp [h, h2], by omega⟩
    · exact ⟨200, by omega, by omega, by omega, by simp [h, h2], by omega⟩
  · by_cases h2 : (s : Int) < x
    · exact ⟨s, by omega, by omega, by omega, by simp [h, h2], by omega⟩
    · exact ⟨x, by omega, by omega, by omega, by simp [h, h2], by omega⟩

theorem find_len (a : Nat) {s o l} (ad : Option Addr) (n cap : Nat) (xs : List UInt8) (i : Nat) (w : World) (h : IsBuf w a s o l) (hv : Slc w ad xs) (hn : xs.length = n) (hxs : n ≤ 140737488355328) (hi : i ≤ l.length) :
    Calls Try.prog 23 #[.pointer (some ⟨a, 0, none⟩), .slice ad n cap, .int .i64 i] w fun e w' => e = .returned (.int .i64 (findR l xs i)) ∧ w.grownBy w' none := by
  subst hn
  exact find_any a ad cap xs i w h hv hxs hi

theorem append_guarded {P : Program} {ops : Array Oper} {rest : List Oper} {o : Oper} {a : Act} {w : World} {Q : Exit → Act → World → Prop} (hw : Region.wanted o (yielded ops a.tmps) = true) (s x : Operand) (t : TypeId)
    (ho : o.op = .call { callee := .builtin .append, args := #[s, x], argTypes := #[t, t] })
    (base : Nat) (e : TypeId) (i : TypeInfo) (z : Value) (size bytes : Nat) (ht : P.underlying t = some (.slice e)) (hi : P.info? e = some i) (hz : i.zero = some z)
    (hsize : i.size = size) (hby : i.bytes = bytes) (hzs : z.cells.size = size) (hsz : 0 < size)
    (v : Value) (n : Nat) (xs : List Value) (hs : a.eval s = v) (hown : w.ownsRow base e size v n xs)
    (ad : Addr) (m c : Nat) (news : List Value) (hx : a.eval x = .slice (some ad) m c) (hl : news.length = m * size) (hnews : ∀ j u, news[j]? = some u → w.cell? (ad.add j) = some u) (h1 : ∀ u ∈ news, u.oneCell' = true)
    (h63 : n + m ≤ maxLen) (hbytes : (n + m) * bytes ≤ 140737488355328) (hbase : base ≤ w.heap.size)
    (h : ∀ v' w', w'.ownsRow base e size v' (n + m) (xs ++ news) → w.grownBy w' v.ownBlock → (v' = .slice none 0 0 ↔ v = .slice none 0 0 ∧ m = 0) → wpList P ops Q rest (a.put o.dst v') w') : wpList P ops Q (o :: rest) a w := by
  simp only [wpList, if_pos hw]
  exact .inl (wp_append_own w s x t ho base e i z size bytes ht hi hz hsize hby hzs hsz v n xs hs hown ad m c news hx hl hnews h1 h63 hbytes hbase h)

theorem cap_cases (i cap : Nat) (h : i ≤ cap) : i < cap ∨ (i = cap ∧ 0 < cap) ∨ cap = 0 := by omega

/-- A box of two bytes. -/
def Cut2 (w : World) (b : Nat) (x y : UInt8) : Prop := w.heap[b]? = some (.cells #[.int .u8 x.toNat, .int .u8 y.toNat] 49)
theorem Cut2.c0 {w : World} {b : Nat} {x y : UInt8} (h : Cut2 w b x y) : w.cell? ⟨b, 0, none⟩ = some (.int .u8 x.toNat) := by unfold Cut2 at h; simp [World.cell?, h]
theorem Cut2.c1 {w : World} {b : Nat} {x y : UInt8} (h : Cut2 w b x y) : w.cell? ⟨b, 1, none⟩ = some (.int .u8 y.toNat) := by unfold Cut2 at h; simp [World.cell?, h]
theorem Cut2.lt {w : World} {b : Nat} {x y : UInt8} (h : Cut2 w b x y) : b < w.heap.size := (Array.getElem?_eq_some_iff.1 h).1
theorem Cut2.grown {w w' : World} {row} {b : Nat} {x y : UInt8} (k : Cut2 w b x y) (g : w.grownBy w' row) (hr : some b ≠ row) : Cut2 w' b x y := (g.block b k.lt hr).trans k
set_option maxRecDepth 100000 in
set_option maxHeartbeats 4000000 in
theorem finds_walk (n : UInt8) (al : Option Addr) (cap : Nat) (l : List UInt8) (x0 x1 : UInt8) (fr : Int) (w : World) (hl0 : Slc w al l) (hcl : l.length ≤ cap) (hml : cap ≤ maxLen) :
    Calls Try.prog 6 #[.int .u8 n.toNat, .slice al l.length cap, .agg #[.int .u8 x0.toNat, .int .u8 x1.toNat], .int .i64 fr] w fun e w' => e = .returned (.bool true) ∧ Below w.heap.size w w' := by
  obtain ⟨s, hs1, hs2, hsz⟩ := size_some n
  obtain ⟨M, hM, hMs, hM2, hq, hq0⟩ := min3_some l.length s
  have hl := hl0.take M
  have hlen : (l.take M).length = M := by rw [List.length_take]; omega
  generalize l.take M = l' at hl hlen
  clear hl0
  go_enter Try.func6, Try.ntmps6
  go_wp2_with fail
  have B0 := (Below.refl w.heap.size w).alloc (Nat.le_refl _) (.cells #[.int .u8 x0.toNat, .int .u8 x1.toNat] 49)
  have X0 : Cut2 (w.alloc (.cells #[.int .u8 x0.toNat, .int .u8 x1.toNat] 49)) w.heap.size x0 x1 := by unfold Cut2; rw [World.alloc_heap_new]
  generalize w.alloc (.cells #[.int .u8 x0.toNat, .int .u8 x1.toNat] 49) = w0 at B0 X0 ⊢
  refine (awake_any w0).mono ?_
  rintro e w1 ⟨rfl, g1⟩
  have X1 := X0.grown g1 (by simp)
  have B1 := B0.trans ((below_of_grown g1).mono B0.size)
  clear g1 B0 X0
  go_wp2_with fail
  refine (hsz w1).mono ?_
  rintro e _ ⟨rfl, rfl⟩
  go_wp2_with fail
  refine (new_ok s 7 w1 hs1 hs2 (by omega)).mono ?_
  rintro e w2 ⟨rfl, hb2, g2⟩
  have X2 := X1.grown g2 (by simp)
  have B2 := B1.trans ((below_of_grown g2).mono B1.size)
  have hz := B1.size
  have hxb := X1.lt
  clear g2 B1 X1
  generalize w1.heap.size = b at hb2 hz hxb ⊢
  go_wp2_with fail
  refine (hsz w2).mono ?_
  rintro e _ ⟨rfl, rfl⟩
  go_wp2_with fail
  have hM0 : (M : Int) ≤ 200 := by omega
  go_loopw [41] (fun v wr => ∃ j : Nat, j ≤ M ∧ v = .int .i64 j ∧ IsBuf wr b s 7 (l'.take j) ∧ Cut2 wr w.heap.size x0 x1 ∧ Below w.heap.size w wr)
    (fun v _ => M - (intOf v).toNat)
  case atStart => exact ⟨0, Nat.zero_le _, rfl, hb2, X2, B2⟩
  case round =>
    obtain ⟨j, hj, rfl, hbr, hXr, hBr⟩ := hrel
    by_cases hlt : j < M
    · have hlt' : (j : Int) < M := by omega
      obtain rfl | ⟨bb, off, rfl, hbl, hbc⟩ := hl.below hBr (Nat.le_refl _)
      · simp at hlen; omega
      have hcj := hbc j (by omega)
      have hjl : (l'.take j).length = j := by rw [List.length_take]; omega
      go_wp2_with fail
      refine (put_ok _ _ _ hbr (by omega) (by omega)).mono ?_
      rintro e w6 ⟨rfl, hb6, g6⟩
      go_wp2_with fail
      go_roundw
      case rel =>
        refine ⟨j + 1, by omega, by go_num, ?_, hXr.grown g6 (by simp; omega), below_grown hBr g6 hBr.size hz⟩
        rw [List.take_succ_eq_append_getElem (by omega)]
        exact hb6
      case measure => simp [intOf]; omega
    · obtain rfl : j = M := by omega
      have hge : ¬ ((j : Int) < j) := by omega
      clear hq hq0
      rw [List.take_of_length_le (by omega)] at hbr
      have hc0 := hXr.c0
      have hc1 := hXr.c1
      have hx0 : x0.toNat < 256 := x0.toNat_lt
      have hx1 : x1.toNat < 256 := x1.toNat_lt
      obtain ⟨i, hi, hix⟩ : ∃ i : Nat, i ≤ j ∧ (x0.toNat : Int) % ((j : Int) + 1) = (i : Int) :=
        ⟨x0.toNat % (j + 1), by have := Nat.mod_lt x0.toNat (show 0 < j + 1 by omega); omega, by push_cast; rfl⟩
      obtain ⟨k, hk, hkx⟩ : ∃ k : Nat, i + k ≤ j ∧ (x1.toNat : Int) % ((j : Int) - i + 1) = (k : Int) :=
        ⟨x1.toNat % (j - i + 1), by have := Nat.mod_lt x1.toNat (show 0 < j - i + 1 by omega); omega, by
          rw [show (j : Int) - i + 1 = ((j - i + 1 : Nat) : Int) by omega]; push_cast; rfl⟩
      have hsl : ((l'.drop i).take k).length = k := by rw [List.length_take, List.length_drop, hlen]; omega
      obtain ⟨q, hq1, hq2, hq3, hq4⟩ := findR_spec l' ((l'.drop i).take k) i (hit_part l' i k (by omega))
      have hql := hit_le hq2
      have hfi := findR_some (i := i) (Nat.le_refl i) (fun t h1 h2 => by omega) (hit_part l' i k (by omega))
      have hqe := hit_eq hq2
      rw [hsl] at hql hqe
      have hS1 := ((hl.add i).take k)
      have hS2 := ((hl.add q).take k)
      rw [hqe] at hS2
      have hin : (i : Int) ≤ j := by omega
      have hkn : (i : Int) + k ≤ j := by omega
      have hqn : (q : Int) ≤ i := by omega
      have hjc : (j : Int) ≤ cap := by omega
      have hik : (i : Int) ≤ i + k := by omega
      have hqk : (q : Int) ≤ q + k := by omega
      have hqj : (q : Int) + k ≤ cap := by omega
      have hij : (i : Int) + k ≤ cap := by omega
      have hmk : max ((k : Int)) 0 = k := by omega
      have d1 : decide ((q : Int) < 0) = false := by simp
      have d2 : decide (i < q) = false := by simp; omega
      generalize hsub : (l'.drop i).take k = sub at hsl hq2 hq3 hq4 hfi hS1 hS2
      refine or3 (cap_cases i cap (by omega)) ?c1 ?c2 ?c3
      case' c1 =>
        intro hic
        have n1 : ¬ cap = i := by omega
        have n2 : ¬ cap = q := by omega
        have N3 := Lib.hid (show ∀ t, t < q → ¬ cap = t from fun t ht => by omega)
        go_wp2_with fail
        refine (find_len b _ _ _ sub 0 wr hbr (hS1.below hBr (Nat.le_refl _)) hsl (by omega) (by omega)).mono ?_
        rintro e w3 ⟨rfl, g3⟩
        rw [hq4]
        have hb3 := hbr.grown g3 (by simp)
        have B3 := hBr.trans ((below_of_grown g3).mono hBr.size)
        clear g3
        go_wp2_with fail
        refine (equal_any sub sub _ _ _ _ _ _ _ hsl hsl (hS2.below B3 (Nat.le_refl _)) (hS1.below B3 (Nat.le_refl _))).mono ?_
      case' c2 =>
        intro hic
        have hk0 : k = 0 := by omega
        have hsn : sub = [] := List.eq_nil_of_length_eq_zero (by omega)
        have hs0 : sub.length = 0 := by rw [hsn]; rfl
        have hq0 : q = 0 := by
          rcases Nat.eq_zero_or_pos q with h | h
          · exact h
          · have := hq3 0 h
            rw [hsn, hit_nil _ _ (Nat.zero_le _)] at this
            cases this
        have n2 : ¬ cap = q := by omega
        have N3 := Lib.hid (show ∀ t, t < q → ¬ cap = t from fun t ht => by omega)
        obtain rfl : i = cap := hic.1
        have HQ := Lib.hid hq0
        clear hic hk0 hq0
        go_wp2_with fail
        refine (find_len b _ 0 _ sub 0 wr hbr (.inl hsn) hs0 (Nat.zero_le _) (Nat.zero_le _)).mono ?_
        rintro e w3 ⟨rfl, g3⟩
        rw [hq4]
        have hb3 := hbr.grown g3 (by simp)
        have B3 := hBr.trans ((below_of_grown g3).mono hBr.size)
        clear g3
        go_wp2_with fail
        refine (equal_any sub sub _ _ 0 0 _ _ _ hs0 hs0 (.inl hsn) (.inl hsn)).mono ?_
      case' c3 =>
        intro hic
        have hsn : sub = [] := List.eq_nil_of_length_eq_zero (by omega)
        have hs0 : sub.length = 0 := by rw [hsn]; rfl
        have N3 := Lib.hid (show ∀ t, t < q → ¬ cap = t from fun t ht => by omega)
        have hq0 : q = 0 := by omega
        obtain rfl : i = cap := by omega
        obtain rfl : q = i := by omega
        have HQ := Lib.hid hq0
        clear hic hq0
        go_wp2_with fail
        refine (find_len b _ 0 _ sub 0 wr hbr (.inl hsn) hs0 (Nat.zero_le _) (Nat.zero_le _)).mono ?_
        rintro e w3 ⟨rfl, g3⟩
        rw [hq4]
        have hb3 := hbr.grown g3 (by simp)
        have B3 := hBr.trans ((below_of_grown g3).mono hBr.size)
        clear g3
        go_wp2_with fail
        refine (equal_any sub sub _ _ 0 0 _ _ _ hs0 hs0 (.inl hsn) (.inl hsn)).mono ?_
      all_goals
        rintro e _ ⟨rfl, rfl⟩
        simp only [BEq.rfl, Nat.add_sub_cancel_left]
        go_wp2_with fail
        have hq0' : (0 : Int) ≤ q := by omega
        clear hbr hXr hBr hc0 hc1
        go_loopw [94] (fun v wr => ∃ t : Nat, t ≤ q ∧ v = .int .i64 t ∧ IsBuf wr b s 7 l' ∧ Below w.heap.size w wr)
          (fun v _ => q - (intOf v).toNat)
        case atStart => exact ⟨0, Nat.zero_le _, rfl, hb3, B3⟩
        case round =>
          obtain ⟨t, ht, rfl, hbr, hBr⟩ := hrel
          by_cases hlt : t < q
          · first
            | (exfalso
               have := HQ.out
               omega)
            | (have hlt' : (t : Int) < q := by omega
               have htj : (t : Int) ≤ j := by omega
               have n3 := N3.out t hlt
               go_wp2_with fail
               refine (prefix_any (l'.drop t) sub _ _ _ k _ _ _ (by rw [List.length_drop, hlen]) hsl (by omega) (by omega) ((hl.add t).below hBr (Nat.le_refl _)) (hS1.below hBr (Nat.le_refl _))).mono ?_
               rintro e _ ⟨rfl, rfl⟩
               rw [show (decide (k ≤ j - t) && ((l'.drop t).take k == sub)) = false by
                 have h1 := hq3 t hlt
                 simp only [hit, hsl, hlen] at h1
                 rw [← h1]
                 congr 1
                 simp; omega]
               go_wp2_with fail
               go_roundw
               case rel => exact ⟨t + 1, by omega, by go_num, hbr, hBr⟩
               case measure => simp [intOf]; omega)
          · obtain rfl : t = q := by omega
            have hge : ¬ ((t : Int) < t) := by omega
            go_wp2_with fail
            first
            | refine (find_len b _ 0 _ sub _ wr hbr (.inl hsn) hs0 (Nat.zero_le _) (by omega)).mono ?_
            | refine (find_len b _ k _ sub _ wr hbr (hS1.below hBr (Nat.le_refl _)) hsl (by omega) (by omega)).mono ?_
            rintro e w4 ⟨rfl, g4⟩
            rw [hfi]
            have hb4 := hbr.grown g4 (by simp)
            have B4 := hBr.trans ((below_of_grown g4).mono hBr.size)
            clear g4 hbr hBr
            go_wp2_with fail
            refine (clone_any l' _ _ _ _ hlen (by omega) (hl.below B4 (Nat.le_refl _))).mono ?_
            rintro e w5 ⟨v5, rfl, o5, B5⟩
            have hb5 := hb4.of_block (B5.block b hb4.lt)
            have B5' := B4.trans (B5.mono B4.size)
            obtain ⟨i0, hi0, hz0, hz1, hz2⟩ := info_parts Try.info5
            go_wp2_with (at_builtin; refine append_guarded (by rfl) _ _ 23 rfl w4.heap.size 5 i0 (.int .u8 0) 1 1 Try.underlying23 hi0 hz0 hz1 hz2 rfl (by decide) _ _ _ rfl (o5.alloc _) ⟨w5.heap.size, 0, none⟩ 1 1 [.int .u8 120] rfl rfl (cell_one_new _ _ _) (by simp [Value.oneCell']) (by unfold maxLen; omega) (by omega) (by have := B5.size; simp; omega) ?_; intro v' w6 hown' hgrow _; obtain ⟨g', cap', rfl⟩ := ownsRow_succ hown')
            have hb6 : IsBuf w6 b s 7 l' := (hb5.grown (World.grownBy_alloc w5 (.cells #[.int .u8 120] 5) none) (by simp)).grown hgrow (fun e => by have := (o5.lt b e.symm).1; have := hb4.lt; omega)
            have B6 : Below w.heap.size w w6 := (B5'.alloc B5'.size (.cells #[.int .u8 120] 5)).grown hgrow (B5'.alloc B5'.size (.cells #[.int .u8 120] 5)).size (fun r e => by have := (o5.lt r e).1; have := B4.size; omega)
            have e6 : l'.map B ++ [.int .u8 120] = (l' ++ [120]).map B := by simp [B]
            rw [e6] at hown'
            have s6 := (slc_of_owns hown').1
            have hl6 : (l' ++ [120]).length = j + 1 := by simp; omega
            clear hown' hgrow o5 B5 B5' hb5 hb4 B4
            refine (find_len b _ (j + 1) _ (l' ++ [120]) 0 w6 hb6 s6 hl6 (by omega) (Nat.zero_le _)).mono ?_
            rintro e w7 ⟨rfl, g7⟩
            rw [findR_none (j := 0) (fun _ _ h => by omega) (by omega)]
            have hb7 := hb6.grown g7 (by simp)
            have B7 := B6.trans ((below_of_grown g7).mono B6.size)
            clear g7 hb6 B6 s6
            by_cases hfr : fr < 0 ∨ (0 ≤ fr ∧ (j : Int) < fr)
            · have hfo : fr < 0 ∨ (0 ≤ fr ∧ (l'.length : Int) < fr) := by omega
              go_wp2_with fail
              refine (find_out b none 0 0 fr w7 hb7 hfo).mono ?_
              rintro e w8 ⟨rfl, g8⟩
              have hb8 := hb7.grown g8 (by simp)
              have B8 := B7.trans ((below_of_grown g8).mono B7.size)
              have hor : (decide (fr < 0) || decide ((j : Int) < fr)) = true := by simp; omega
              rcases hfr with hf1 | ⟨hf1, hf2⟩
              · go_wp2_with fail
                refine (find_out b _ _ _ fr w8 hb8 hfo).mono ?_
                rintro e w9 ⟨rfl, g9⟩
                go_wp2_with fail
                go_ret
                exact ⟨rfl, B8.trans ((below_of_grown g9).mono B8.size)⟩
              · have hf3 : ¬ fr < 0 := by omega
                go_wp2_with fail
                refine (find_out b _ _ _ fr w8 hb8 hfo).mono ?_
                rintro e w9 ⟨rfl, g9⟩
                go_wp2_with fail
                go_ret
                exact ⟨rfl, B8.trans ((below_of_grown g9).mono B8.size)⟩
            · obtain ⟨f, rfl⟩ : ∃ f : Nat, fr = f := ⟨fr.toNat, by omega⟩
              have hff : f ≤ l'.length := by omega
              go_wp2_with fail
              refine (find_len b none 0 0 [] f w7 hb7 (.inl rfl) rfl (Nat.zero_le _) hff).mono ?_
              rintro e w8 ⟨rfl, g8⟩
              rw [findR_some (i := f) (Nat.le_refl f) (fun t h1 h2 => by omega) (hit_nil _ _ hff)]
              have B8 := B7.trans ((below_of_grown g8).mono B7.size)
              have hf1 : ¬ (f : Int) < 0 := by omega
              have hf2 : ¬ (j : Int) < f := by omega
              go_wp2_with fail
              go_ret
              exact ⟨by simp, B8⟩
end Go.Proofs.Ytadoobkieehajaa
