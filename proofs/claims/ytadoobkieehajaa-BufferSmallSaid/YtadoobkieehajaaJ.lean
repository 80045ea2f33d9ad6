/- The contract of Find. -/
import Derived.Test.YtadoobkieehajaaI
import Derived.WalkMore
namespace Go.Proofs.Ytadoobkieehajaa
open Go.RowKit Go.Shelf

attribute [local go_sem] Oper.semAt_some

/-- A slice that reads as these bytes. -/
def Slc (w : World) (ad : Option Addr) (xs : List UInt8) : Prop := xs = [] ∨ ∃ b off, ad = some ⟨b, off, none⟩ ∧ b < w.heap.size ∧ ∀ j (h : j < xs.length), w.cell? ⟨b, off + j, none⟩ = some (B xs[j])

theorem Slc.below {w w' : World} {ad : Option Addr} {xs : List UInt8} {n : Nat} (h : Slc w ad xs) (hb : Below n w w') (hn : w.heap.size ≤ n) : Slc w' ad xs := by
  refine h.imp id ?_
  rintro ⟨b, off, ha, hl, hc⟩
  exact ⟨b, off, ha, Nat.lt_of_lt_of_le hl hb.size, fun j hj => (hb.cell (p := ⟨b, off + j, none⟩) (Nat.lt_of_lt_of_le hl hn)).trans (hc j hj)⟩

/-- Do the bytes s stand in l at i? -/
def hit (l s : List UInt8) (i : Nat) : Bool := decide (i + s.length ≤ l.length) && (l.drop i).take s.length == s
/-- The first of n places from i on at which they do. -/
def findFrom (l s : List UInt8) : Nat → Nat → Int
  | 0, _ => -1
  | n + 1, i => if hit l s i then i else findFrom l s n (i + 1)
def findR (l s : List UInt8) (i : Nat) : Int := findFrom l s (l.length + 1 - s.length - i) i

theorem findFrom_none (l s : List UInt8) : ∀ (n i : Nat), (∀ k, i ≤ k → k < i + n → hit l s k = false) → findFrom l s n i = -1
  | 0, _, _ => rfl
  | n + 1, i, h => by
    rw [findFrom, if_neg (by rw [h i (Nat.le_refl _) (by omega)]; decide)]
    exact findFrom_none l s n (i + 1) (fun k h1 h2 => h k (by omega) (by omega))
theorem findFrom_some (l s : List UInt8) : ∀ (n i j : Nat), i ≤ j → j < i + n → (∀ k, i ≤ k → k < j → hit l s k = false) → hit l s j = true → findFrom l s n i = j
  | 0, i, j, h1, h2, _, _ => by omega
  | n + 1, i, j, h1, h2, h3, h4 => by
    by_cases e : i = j
    · subst e; rw [findFrom, if_pos h4]
    · rw [findFrom, if_neg (by rw [h3 i (Nat.le_refl _) (by omega)]; decide)]
      exact findFrom_some l s n (i + 1) j (by omega) (by omega) (fun k a b => h3 k (by omega) b) h4
theorem hit_le {l s : List UInt8} {j : Nat} (h : hit l s j = true) : j + s.length ≤ l.length := by
  simp only [hit, Bool.and_eq_true, decide_eq_true_eq] at h; exact h.1
theorem findR_none {l s : List UInt8} {i j : Nat} (h : ∀ k, i ≤ k → k < j → hit l s k = false) (hj : l.length < j + s.length) : findR l s i = -1 :=
  findFrom_none _ _ _ _ (fun k h1 h2 => by
    by_cases e : k < j
    · exact h k h1 e
    · cases hh : hit l s k with
      | false => rfl
      | true => have := hit_le hh; omega)
theorem findR_some {l s : List UInt8} {i j : Nat} (hi : i ≤ j) (h : ∀ k, i ≤ k → k < j → hit l s k = false) (hj : hit l s j = true) : findR l s i = j :=
  findFrom_some _ _ _ _ _ hi (by have := hit_le hj; omega) h hj
theorem hit_yes {l s : List UInt8} {j : Nat} (hj : j + s.length ≤ l.length) (h : ∀ t, t < s.length → l.getD (j + t) 0 = s.getD t 0) : hit l s j = true := by
  simp only [hit, Bool.and_eq_true, decide_eq_true_eq, beq_iff_eq]
  refine ⟨hj, List.ext_getElem (by simp; omega) fun t h1 h2 => ?_⟩
  have := h t h2
  simp [show j + t < l.length by omega, h2] at this
  simp [this]
theorem hit_no {l s : List UInt8} {j t : Nat} (hj : j + s.length ≤ l.length) (ht : t < s.length) (h : l.getD (j + t) 0 ≠ s.getD t 0) : hit l s j = false := by
  cases hh : hit l s j with
  | false => rfl
  | true =>
    simp only [hit, Bool.and_eq_true, decide_eq_true_eq, beq_iff_eq] at hh
    refine absurd ?_ h
    have h2 := congrArg (fun x => x.getD t 0) hh.2
    simp [show j + t < l.length by omega, ht] at h2
    simp [show j + t < l.length by omega, ht, h2]

/-- What holds at the head of Find's loop. -/
structure FInv (w : World) (l xs : List UInt8) (ad : Option Addr) (cap i j ib : Nat) (Ds : List Nat) (wr : World) : Prop where
  lo : i ≤ j
  hi : j ≤ l.length + 1
  nay : ∀ k, i ≤ k → k < j → hit l xs k = false
  bs : Boxed wr w.heap.size 23 (.slice ad xs.length cap)
  bi : Boxed wr ib 3 (.int .i64 j)
  ibn : w.heap.size < ib
  bel : Below w.heap.size w wr
  nd : Ds.Nodup
  mks : ∀ D ∈ Ds, wr.heap[D]? = some (.deferred (some [])) ∧ w.heap.size ≤ D

def addrOf : Value → Addr | .pointer (some a) => a | _ => ⟨0, 0, none⟩
/-- How many rounds are left. -/
def fleft (l : List UInt8) (a : Act) (wr : World) : Nat := l.length + 1 - (intOf ((wr.cell? (addrOf (a.tmps.getD 7 undef))).getD undef)).toNat

theorem find_nil (ad : Option Addr) (len cap : Nat) (i : Int) (w : World) :
    Calls Try.prog 23 #[.pointer none, .slice ad len cap, .int .i64 i] w fun e w' => e = .returned (.int .i64 (-1)) ∧ w.grownBy w' none := by
  go_enter Try.func23, Try.ntmps23
  go_wp2_with fail
  go_step3
  go_wp2_with fail
  refine (none_nil _).mono ?_
  rintro e w1 ⟨rfl, m1, rfl⟩
  go_wp2_with fail
  rw [Exit.noGoto_ret]
  go_ret
  exact ⟨rfl, grown_draws (grown_alloc (grown_refl _ _) _) _⟩

theorem FInv.alloc {w : World} {l xs : List UInt8} {ad : Option Addr} {cap i j ib : Nat} {Ds : List Nat} {W : World} (F : FInv w l xs ad cap i j ib Ds W) (o : Obj) : FInv w l xs ad cap i j ib Ds (W.alloc o) :=
  ⟨F.lo, F.hi, F.nay, F.bs.alloc o, F.bi.alloc o, F.ibn, F.bel.alloc F.bel.size o, F.nd, fun D hD => ⟨(Below.heap_alloc _ _ _ (Array.getElem?_eq_some_iff.1 (F.mks D hD).1).1).trans (F.mks D hD).1, (F.mks D hD).2⟩⟩
theorem FInv.drewN {w : World} {l xs : List UInt8} {ad : Option Addr} {cap i j ib : Nat} {Ds : List Nat} {W : World} (F : FInv w l xs ad cap i j ib Ds W) (d : Nat) : FInv w l xs ad cap i j ib Ds (W.drewN d) :=
  ⟨F.lo, F.hi, F.nay, by rw [Boxed, World.heap_drewN]; exact F.bs, by rw [Boxed, World.heap_drewN]; exact F.bi, F.ibn, below_drewN F.bel d, F.nd, fun D hD => ⟨by rw [World.heap_drewN]; exact (F.mks D hD).1, (F.mks D hD).2⟩⟩
theorem FInv.below {w : World} {l xs : List UInt8} {ad : Option Addr} {cap i j ib : Nat} {Ds : List Nat} {W W' : World} (F : FInv w l xs ad cap i j ib Ds W) (h : Below W.heap.size W W') : FInv w l xs ad cap i j ib Ds W' :=
  ⟨F.lo, F.hi, F.nay, (h.block _ F.bs.lt).trans F.bs, (h.block _ F.bi.lt).trans F.bi, F.ibn, F.bel.trans (h.mono F.bel.size), F.nd, fun D hD => ⟨(h.block _ (Array.getElem?_eq_some_iff.1 (F.mks D hD).1).1).trans (F.mks D hD).1, (F.mks D hD).2⟩⟩
theorem FInv.nd_cons {w : World} {l xs : List UInt8} {ad : Option Addr} {cap i j ib : Nat} {Ds : List Nat} {W w3 : World} (F : FInv w l xs ad cap i j ib Ds W)
    (hs : w.heap.size ≤ w3.heap.size) (hD : W.heap[w3.heap.size]? = some (.deferred (some []))) (F3 : FInv w l xs ad cap i j ib Ds w3) :
    (w3.heap.size :: Ds).Nodup ∧ ∀ D ∈ w3.heap.size :: Ds, W.heap[D]? = some (.deferred (some [])) ∧ w.heap.size ≤ D := by
  refine ⟨List.nodup_cons.2 ⟨fun h => ?_, F.nd⟩, fun D h => ?_⟩
  · have := (Array.getElem?_eq_some_iff.1 (F3.mks _ h).1).1
    omega
  · rcases List.mem_cons.1 h with rfl | h
    · exact ⟨hD, hs⟩
    · exact F.mks D h
theorem FInv.next {w : World} {l xs : List UInt8} {ad : Option Addr} {cap i j ib : Nat} {Ds : List Nat} {W w3 : World} (F : FInv w l xs ad cap i j ib Ds W) (hh : hit l xs j = false) (hj : j ≤ l.length)
    (hs : w.heap.size ≤ w3.heap.size) (hD : W.heap[w3.heap.size]? = some (.deferred (some []))) (F3 : FInv w l xs ad cap i j ib Ds w3) (hz : w3.heap.size ≤ W.heap.size) :
    FInv w l xs ad cap i (j + 1) W.heap.size (w3.heap.size :: Ds) (W.alloc (.cells #[.int .i64 (j + 1)] 3)) :=
  ⟨by have := F.lo; omega, by omega, fun k h1 h2 => (if e : k = j then e ▸ hh else F.nay k h1 (by omega)), F.bs.alloc _, Boxed.new _ _ _, by have := F.bs.lt; omega, F.bel.alloc F.bel.size _,
    (F.nd_cons hs hD F3).1, fun D h => ⟨(Below.heap_alloc _ _ _ (Array.getElem?_eq_some_iff.1 ((F.nd_cons hs hD F3).2 D h).1).1).trans ((F.nd_cons hs hD F3).2 D h).1, ((F.nd_cons hs hD F3).2 D h).2⟩⟩
theorem two_new {W w3 : World} {v u : Value} {t t' : TypeId} (h : (W.alloc (.cells #[v] t)).alloc (.cells #[u] t') = w3) :
    w3.cell? ⟨W.heap.size, 0, none⟩ = some v ∧ w3.cell? ⟨W.heap.size + 1, 0, none⟩ = some u ∧ w3.heap.size = W.heap.size + 2 := by
  subst h
  refine ⟨((Boxed.new W _ _).alloc _).cell, ?_, by simp⟩
  have := (Boxed.new (W.alloc (.cells #[v] t)) t' u).cell
  rwa [World.size_alloc] at this
theorem find_leave {n : Nat} {fn : Func} {tmps : Array Value} {v : Value} {Ds : List Nat} {w W : World} (hfn : fn.results = #[.tmp 6]) (hv : tmps.getD 6 undef = v)
    (hb : Below w.heap.size w W) (hnd : Ds.Nodup) (hm : ∀ D ∈ Ds, W.heap[D]? = some (.deferred (some [])) ∧ w.heap.size ≤ D) :
    LeavesInM Fence.wide n Try.prog fn tmps (fun e w' => e = .returned v ∧ w.grownBy w' none) (marks Ds) .returning W :=
  leaves_marks Ds W hnd (fun D h => (hm D h).1) fun W' h1 h2 h3 h4 h5 => ⟨v, by rw [results_tmp hfn, hv], rfl,
    grown_of_below _ ⟨h1.trans hb.os, h2.trans hb.tape, h3.trans hb.output, h4 ▸ hb.size, fun k hk => (h5 k (fun hD => by have := (hm k hD).2; omega)).trans (hb.block k hk)⟩⟩

theorem find_out (a : Nat) {s o l} (ad : Option Addr) (len cap : Nat) (i : Int) (w : World) (h : IsBuf w a s o l) (hi : i < 0 ∨ (0 ≤ i ∧ (l.length : Int) < i)) :
    Calls Try.prog 23 #[.pointer (some ⟨a, 0, none⟩), .slice ad len cap, .int .i64 i] w fun e w' => e = .returned (.int .i64 (-1)) ∧ w.grownBy w' none := by
  obtain ⟨r, f, hr, hf, x⟩ := h.ex
  have ha := h.grown (World.grownBy_alloc w (.cells #[.slice ad len cap] 23) none) (by simp)
  have hch := (hr.grown (World.grownBy_alloc w (.cells #[.slice ad len cap] 23) none) (by simp)).cheld
  go_enter Try.func23, Try.ntmps23
  go_wp2_with fail
  go_step3
  rcases hi with hi | ⟨h0, hi⟩
  · go_wp2_with fail
    refine (none_no _ _ ha).mono ?_
    rintro e w1 ⟨rfl, m1, rfl⟩
    go_wp2_with fail
    rw [Exit.noGoto_ret]
    go_ret
    exact ⟨rfl, grown_draws (grown_alloc (grown_refl _ _) _) _⟩
  · have hn : ¬ i < 0 := by omega
    go_wp2_with fail
    refine (none_no _ _ ha).mono ?_
    rintro e w1 ⟨rfl, m1, rfl⟩
    go_wp2_with fail
    rw [Exit.noGoto_ret]
    go_ret
    exact ⟨rfl, grown_draws (grown_alloc (grown_refl _ _) _) _⟩

set_option maxRecDepth 100000 in
set_option maxHeartbeats 1000000 in
theorem find_any (a : Nat) {s o l} (ad : Option Addr) (cap : Nat) (xs : List UInt8) (i : Nat) (w : World) (h : IsBuf w a s o l) (hv : Slc w ad xs) (hxs : xs.length ≤ 140737488355328) (hi : i ≤ l.length) :
    Calls Try.prog 23 #[.pointer (some ⟨a, 0, none⟩), .slice ad xs.length cap, .int .i64 i] w fun e w' => e = .returned (.int .i64 (findR l xs i)) ∧ w.grownBy w' none := by
  obtain ⟨r, f, hr, hf, x⟩ := h.ex
  have hfit := h.fits
  have hhi := h.hi
  have hi1 : (i : Int) ≤ l.length := by omega
  refine (callsIn_wide (n := 5)).1 ?_
  refine callsIn_of_wp_marks Try.func23 rfl trivial ?_ rfl
  simp only [Try.ntmps23, List.size_toArray, List.length_cons, List.length_nil, Nat.reduceAdd, Nat.reduceSub, Array.replicate_succ, Array.replicate_zero, List.push_toArray, List.append_toArray, List.nil_append, List.cons_append]
  refine wpIn_wide.2 ?_
  go_wp2_with fail
  go_step3
  have hch := (hr.grown (World.grownBy_alloc w (.cells #[.slice ad xs.length cap] 23) none) (by simp)).cheld
  have ha := h.grown (World.grownBy_alloc w (.cells #[.slice ad xs.length cap] 23) none) (by simp)
  go_wp2_with fail
  refine (none_no _ _ ha).mono ?_
  rintro e w1 ⟨rfl, m1, rfl⟩
  go_wp2_with fail
  generalize hW1 : (w.alloc (.cells #[.slice ad xs.length cap] 23)).drewN m1 = W1
  have bS : Boxed W1 w.heap.size 23 (.slice ad xs.length cap) := by rw [← hW1]; exact Boxed.new _ _ _
  have hB1 : Below w.heap.size w W1 := by rw [← hW1]; exact below_drewN ((Below.refl _ _).alloc (Nat.le_refl _) _) _
  have hsz1 : w.heap.size < W1.heap.size := bS.lt
  clear hW1 hr x hch ha
  go_step3
  go_wp2_with fail
  refine wp_loop (fun a' wr => ∃ (j ib : Nat) (Ds : List Nat) (u8 u9 u10 u11 u12 u13 u14 u15 u16 u17 u18 u19 u20 u21 u22 u23 u24 u25 u26 u27 u28 u29 u30 u31 u32 u33 u34 u35 u36 u37 u38 u39 u40 u41 u42 u43 u44 u45 u46 u47 u48 u49 u50 u51 u52 u53 u54 u55 u56 : Value), a' = { tmps := #[.pointer (some ⟨a, 0, none⟩), .slice ad xs.length cap, .int .i64 i, undef, .pointer (some ⟨w.heap.size, 0, none⟩), undef, .int .i64 0, .pointer (some ⟨ib, 0, none⟩), u8, u9, u10, u11, u12, u13, u14, u15, u16, u17, u18, u19, u20, u21, u22, u23, u24, u25, u26, u27, u28, u29, u30, u31, u32, u33, u34, u35, u36, u37, u38, u39, u40, u41, u42, u43, u44, u45, u46, u47, u48, u49, u50, u51, u52, u53, u54, u55, u56], defers := marks Ds } ∧ FInv w l xs ad cap i j ib Ds wr) (fleft l) ?start ?round
  case start =>
    refine ⟨i, W1.heap.size, [], _, _, _, _, _, _, _, _, _, _, _, _, _, _, _, _, _, _, _, _, _, _, _, _, _, _, _, _, _, _, _, _, _, _, _, _, _, _, _, _, _, _, _, _, _, _, _, _, _, rfl, ⟨Nat.le_refl _, by omega, fun k h1 h2 => by omega, bS.alloc _, Boxed.new _ _ _, hsz1, hB1.alloc (by omega) _, by simp, by simp⟩⟩
  case round =>
    rintro a' wr ⟨j, ib, Ds, u8, u9, u10, u11, u12, u13, u14, u15, u16, u17, u18, u19, u20, u21, u22, u23, u24, u25, u26, u27, u28, u29, u30, u31, u32, u33, u34, u35, u36, u37, u38, u39, u40, u41, u42, u43, u44, u45, u46, u47, u48, u49, u50, u51, u52, u53, u54, u55, u56, rfl, F⟩
    have hbr : IsBuf wr a s o l := h.of_block (F.bel.block a h.lt)
    obtain ⟨r, f, hr, hf, x⟩ := hbr.ex
    have hch := hr.cheld
    clear hr x
    have hcs := F.bs.cell
    have hci := F.bi.cell
    have hj := F.hi
    have hj0 : (0 : Int) ≤ j := by omega
    by_cases hlt : l.length < j + xs.length
    · have hlt' : ¬ ((j : Int) + xs.length ≤ l.length) := by omega
      go_wp2_with fail
      go_quiet (fail)
      go_wp2_with fail
      rw [Exit.noGoto_ret]
      exact find_leave rfl (by rw [findR_none F.nay hlt]; rfl) (below_drewN F.bel _) F.nd (fun D hD => ⟨by rw [World.heap_drewN]; exact (F.mks D hD).1, (F.mks D hD).2⟩)
    · have hlt' : (j : Int) + xs.length ≤ l.length := by omega
      go_wp2_with fail
      go_quiet (fail)
      go_wp2_with fail
      refine (all_in _ _ _).mono ?_
      rintro e w3 ⟨rfl, hw3⟩
      go_wp2_with fail
      have F3 : FInv w l xs ad cap i j ib Ds w3 := hw3 ▸ ((F.drewN nq).alloc _).alloc _
      have hb3 : IsBuf w3 a s o l := h.of_block (F3.bel.block a h.lt)
      obtain ⟨hBb, hBf, hsz3⟩ := two_new hw3
      rw [World.heap_drewN] at hBb hBf hsz3
      have hsw3 := F3.bel.size
      have ha := h.lt
      clear hw3 hcs hci hch hbr
      go_wp2_with fail
      refine (wpIn_wide (n := 5)).1 (range_law (gf := 37) (lb := #[.pointer (some ⟨wr.heap.size + 1, 0, none⟩), .pointer (some ⟨wr.heap.size, 0, none⟩)]) rfl (fun _ _ => rfl)
        (all_iter _ _ a j w3 (by omega) (by omega) (by omega) (by omega) hBf hBb hb3) (fun _ => rfl) Kp2.trans (fun W lk ob hl => ⟨World.putObj_heap_other (by omega), World.putObj_heap_other (by omega)⟩)
        (fun k W => Below w3.heap.size w3 W ∧ k ≤ xs.length ∧ ∀ t, t < k → l.getD (j + t) 0 = xs.getD t 0)
        (fun c W => Below w3.heap.size w3 W ∧ ((c = .exit 2 ∧ hit l xs j = true) ∨ (c = .exit 1 ∧ hit l xs j = false)))
        (fun k A C row hA g hr => ⟨hA.1.grown g hA.1.size (fun r e => (hr r e).1), hA.2⟩)
        (fun c A C row hA g hr => ⟨hA.1.grown g hA.1.size (fun r e => (hr r e).1), hA.2⟩)
        ⟨Below.refl _ _, Nat.zero_le _, fun t ht => by omega⟩
        ?a1 ?asg ?body ?done ?stop)
      case asg =>
        intro lk k W K hK
        simp only [enc2, item, Int.natCast_add, List.zip_toArray, List.zip_cons_cons, List.zip_nil_right, List.foldl_toArray, List.foldl_toArray', List.size_toArray, List.length_cons, List.length_nil, List.foldl_cons, List.foldl_nil, List.setIfInBounds_toArray, List.set_cons_succ, List.set_cons_zero]
        gi_wp2
        exact hK
      case body =>
        rintro lk k W hk ⟨hB, hk1, hk2⟩
        have FW := F3.below hB
        have hcs := FW.bs.cell
        have hci := FW.bi.cell
        have hkj : (j : Int) + k ≤ 256 := by omega
        have hk0 : (0 : Int) ≤ k := by omega
        have e1 : (j : Int) + k - j = k := by omega
        by_cases e : k = xs.length
        · have e2 : (k : Int) = xs.length := by omega
          gi_wp2
          exact ⟨KeepsFrom.refl _ _, hB, .inl ⟨rfl, hit_yes (by omega) (fun t ht => hk2 t (by omega))⟩⟩
        · have e2 : ¬ ((k : Int) = xs.length) := by omega
          have e3 : (k : Int) < xs.length := by omega
          obtain rfl | ⟨b, off, rfl, hbl, hbc⟩ := hv.below FW.bel (Nat.le_refl _)
          · simp at e3; omega
          have hbk := hbc k (by omega)
          have hgk : xs.getD k 0 = xs[k]'(by omega) := by simp [show k < xs.length by omega]
          gi_wp2
          · rename_i hne
            exact ⟨KeepsFrom.refl _ _, hB, .inr ⟨rfl, hit_no (by omega) (t := k) (by omega) (fun e => by rw [hgk, List.getD_eq_getElem?_getD] at e; rw [e] at hne; simp at hne)⟩⟩
          · rename_i hne
            refine ⟨KeepsFrom.refl _ _, Kp2.refl _ _ _, hB, by omega, fun t ht => ?_⟩
            by_cases e6 : t = k
            · subst e6; rw [hgk, List.getD_eq_getElem?_getD]; exact UInt8.toNat_inj.1 (by simp at hne; omega)
            · exact hk2 t (by omega)
      case done =>
        rintro W ⟨hB, hk1, hk2⟩ hD
        have FW := F3.below hB
        have hci := FW.bi.cell
        gi_wp2
        go_wp2_with fail
        exact find_leave (Ds := w3.heap.size :: Ds) rfl (by rw [findR_some F.lo F.nay (hit_yes (by omega) (fun t ht => hk2 t (by omega)))]; rfl) FW.bel (FW.nd_cons hsw3 hD F3).1 (FW.nd_cons hsw3 hD F3).2
      case stop =>
        rintro c W ⟨hB, ⟨rfl, hh⟩ | ⟨rfl, hh⟩⟩ hD
        · have FW := F3.below hB
          have hci := FW.bi.cell
          refine wpIn_wide.2 ?_
          go_wp2_with fail
          exact find_leave (Ds := w3.heap.size :: Ds) rfl (by rw [findR_some F.lo F.nay hh]; rfl) FW.bel (FW.nd_cons hsw3 hD F3).1 (FW.nd_cons hsw3 hD F3).2
        · have FW := F3.below hB
          have hci := FW.bi.cell
          have hj1 : (j : Int) ≤ 256 := by omega
          refine wpIn_wide.2 ?_
          go_wp2_with fail
          have hjl : j ≤ l.length := by omega
          refine ⟨⟨j + 1, W.heap.size, w3.heap.size :: Ds, _, _, _, _, _, _, _, _, _, _, _, _, _, _, _, _, _, _, _, _, _, _, _, _, _, _, _, _, _, _, _, _, _, _, _, _, _, _, _, _, _, _, _, _, _, _, _, _, _, rfl, FW.next hh hjl hsw3 hD F3 hB.size⟩, ?_⟩
          show l.length + 1 - (intOf (((W.alloc (.cells #[.int .i64 (j + 1)] 3)).cell? ⟨W.heap.size, 0, none⟩).getD undef)).toNat < l.length + 1 - (intOf ((wr.cell? ⟨ib, 0, none⟩).getD undef)).toNat
          rw [(Boxed.new W _ _).cell, F.bi.cell]
          simp only [Option.getD_some, intOf]
          omega
end Go.Proofs.Ytadoobkieehajaa
