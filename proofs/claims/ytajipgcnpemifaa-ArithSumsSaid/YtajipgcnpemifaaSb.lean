/- A drawn region walked in one order of your own, where a class of worlds may begin to hold behind a chained operation. -/
import Derived.Test.YtajipgcnpemifaaS
namespace Go.Proofs.Ytajipgcnpemifaa

section
variable {P : Program} {md : Region.Mode} {ops : Array Oper} {L : Act → World → Prop}

def nguard (ops : Array Oper) (i : Nat) : Bool := match ops[i]? with | some o => o.guard.isNone | none => false

def mixC (md : Region.Mode) (ops : Array Oper) (T : List (Nat × List Nat)) : List (Nat × (Option Nat ⊕ List Nat)) → List Nat → Array Bool → Bool
  | [], _, s => (Region.ready md ops s).isEmpty
  | (i, .inl k) :: r, lv, s => (Region.ready md ops s).contains i && Region.free md ops s i && (T.lookup i).isNone &&
      (match k with | none => true | some k => lv.contains k && T.all fun p => p.2.contains k || reaches md ops ops.size p.1 i) && mixC md ops T r lv (s.setIfInBounds i true)
  | (i, .inr ks) :: r, lv, s => decide (Region.ready md ops s = [i]) && (T.lookup i == some ks) && (ks.all (fun k => lv.contains k) || nguard ops i) && mixC md ops T r ks (s.setIfInBounds i true)

theorem wanted_nguard {o : Oper} {i : Nat} {y : Array (Option Value)} (h0 : ops[i]? = some o) (h : nguard ops i = true) (tmps : Array Value) : Region.wanted o (yielded ops tmps) = true := by
  unfold nguard at h
  rw [h0] at h
  have : o.guard = none := by simpa using h
  simp [Region.wanted, this]

theorem anyC_of_mixC {c : Nat → World → Prop} {T : List (Nat × List Nat)} (hsel : Region.noSelect ops = true) :
    ∀ (S : List (Nat × (Option Nat ⊕ List Nat))) (lv : List Nat) (s : Array Bool) (a : Act) (w : World), (∀ k, lv.contains k = true → c k w) → Closed md ops s → (∀ p ∈ S, p.1 < ops.size) →
    mixC md ops T S lv s = true → wpMix P ops c L (pickK ops S) a w → anyC P md ops (does c T) L S.length s a w := by
  intro S
  induction S with
  | nil => intro lv s a w _ _ _ hB h; exact ⟨by simpa [mixC] using hB, h⟩
  | cons p r ih =>
    obtain ⟨i, kk⟩ := p
    intro lv s a w hw hs hl hB h
    obtain ⟨o0, h0⟩ : ∃ o, ops[i]? = some o := ⟨_, Array.getElem?_eq_getElem (hl (i, kk) (by simp))⟩
    rw [pickK_cons h0] at h
    have hl' : ∀ p ∈ r, p.1 < ops.size := fun p hp => hl p (by simp [hp])
    cases kk with
    | inl k =>
      simp only [mixC, Bool.and_eq_true] at hB
      obtain ⟨⟨⟨⟨hr, hf⟩, hnone⟩, hk⟩, hB'⟩ := hB
      have hr' : i ∈ Region.ready md ops s := by simpa using hr
      have hlk : T.lookup i = none := by simpa using hnone
      have hcw : cls c k w := by
        cases k with
        | none => trivial
        | some k => simp only [Bool.and_eq_true] at hk; exact hw k hk.1
      have hRi : ∀ w, does c T i w w := fun w => by unfold does; rw [hlk]; exact fun _ h => h
      have hR : ∀ j, j ≠ i → reaches md ops ops.size j i = false → ∀ w w', does c T j w w' → cls c k w → cls c k w' := by
        intro j _ hnr w w' hd hc
        cases k with
        | none => trivial
        | some k =>
          simp only [Bool.and_eq_true] at hk
          unfold does at hd
          split at hd
          · rename_i ks hks
            have h1 := List.all_eq_true.1 hk.2 (j, ks) (mem_of_lookup T j ks hks)
            simp only [hnr, Bool.or_false] at h1
            exact hd k (by simpa using h1)
          · exact hd k hc
      rw [List.length_cons]
      simp only [wpMix] at h
      split at h
      · rename_i hwn
        obtain ⟨v, h1, h2⟩ := h
        exact anyC_first h0 (Region.noSelect_spec hsel) hR hRi _ s a w hcw hs (Region.free_spec h0 hf) hr' (.inl ⟨hwn, h1⟩) (ih lv _ _ w hw (hs.set hr') hl' hB' h2)
      · rename_i hwn
        exact anyC_first h0 (Region.noSelect_spec hsel) hR hRi _ s a w hcw hs (Region.free_spec h0 hf) hr' (.inr ⟨by simpa using hwn, rfl⟩) (ih lv _ _ w hw (hs.set hr') hl' hB' h)
    | inr ks =>
      simp only [mixC, Bool.and_eq_true, decide_eq_true_eq] at hB
      obtain ⟨⟨⟨hr, hlk⟩, hks⟩, hB'⟩ := hB
      have hlk' : T.lookup i = some ks := by simpa using hlk
      have hr' : i ∈ Region.ready md ops s := by rw [hr]; simp
      refine ⟨fun h1 => (by rw [hr] at h1; cases h1), fun j hj => ?_⟩
      rw [hr] at hj
      have hji : j = i := by simpa using hj
      subst hji
      simp only [wpMix] at h
      unfold opC
      simp only [h0]
      split
      · rename_i hwn
        rw [if_pos hwn] at h
        refine opW_mono (fun a' w' h2 => ⟨?_, ih ks _ a' w' (fun k hk => h2.1 k (by simpa using hk)) (hs.set hr') hl' hB' h2.2⟩) h
        unfold does
        rw [hlk']
        exact h2.1
      · rename_i hwn
        have hks' : ks.all (fun k => lv.contains k) = true := by
          rw [Bool.or_eq_true] at hks
          rcases hks with h1 | h1
          · exact h1
          · exact absurd (wanted_nguard (y := #[]) h0 h1 a.tmps) hwn
        rw [if_neg hwn] at h
        exact ih ks _ _ w (fun k hk => hw k (List.all_eq_true.1 hks' k (by simpa using hk))) (hs.set hr') hl' hB' h
end

def mixesC (ops : Array Oper) (S : List (Nat × (Option Nat ⊕ List Nat))) (lv : List Nat) : Bool :=
  Region.noSelect ops && S.all (fun p => decide (p.1 < ops.size)) && decide (S.length = ops.size) && mixC .any ops (tails S) S lv (Array.replicate ops.size false)

theorem region_mixC {P : Program} {id : Nat} {Q : Exit → Act → World → Prop} {a : Act} {w : World} {ops : List Oper} (S : List (Nat × (Option Nat ⊕ List Nat))) (c : Nat → World → Prop) (lv : List Nat)
    (hm : P.follows .mixedOrders = true) (hB : mixesC ops.toArray S lv = true) (hC : ∀ k, lv.contains k = true → c k (w.drewN 1))
    (h : wpMix P ops.toArray c (fun a w => Q .normal a w) (pickK ops.toArray S) a (w.drewN 1)) :
    (Code.region id ops.toArray true).wp P Q a w := by
  simp only [mixesC, Bool.and_eq_true, decide_eq_true_eq, List.all_eq_true] at hB
  obtain ⟨⟨⟨hsel, hlt⟩, hlen⟩, hmix⟩ := hB
  refine (wpIn_wide (n := 0)).1 (wpIn_region_any hm (any_of_anyC (r := none) (R := does c (tails S)) (L := fun a w => Q .normal a w) (.inl rfl) (fun _ _ h => h) _ _ _ _ ?_))
  rw [← hlen]
  refine anyC_of_mixC hsel S lv _ a (w.drewN 1) hC ?_ hlt (by rw [← hlen] at hmix; exact hmix) h
  intro j o _ hl
  rw [getD_replicate_false] at hl
  cases hl

theorem mix_step_n {P : Program} {L : Act → World → Prop} {c : Nat → World → Prop} {a : Act} {w : World} {l : List Oper} {i : Nat} {o : Oper} {ks : List Nat} {S : List (Nat × (Option Nat ⊕ List Nat))} (h0 : l[i]? = some o) (hg : o.guard = none)
    (h : ∀ K : Act → World → Prop, (∀ a w, (∀ k ∈ ks, c k w) → wpMix P l.toArray c L (pickK l.toArray S) a w → K a w) → wpList P l.toArray (OnlyN fun _ a' w' => K a' w') [o] a w) : wpMix P l.toArray c L (pickK l.toArray ((i, .inr ks) :: S)) a w := by
  rw [pickK_cons (by rw [List.getElem?_toArray]; exact h0)]
  have h1 := h (fun a' w' => (∀ k ∈ ks, c k w') ∧ wpMix P l.toArray c L (pickK l.toArray S) a' w') (fun _ _ h1 h2 => ⟨h1, h2⟩)
  have hw : Region.wanted o (yielded l.toArray a.tmps) = true := by simp [Region.wanted, hg]
  simp only [wpMix]
  simp only [wpList] at h1
  rw [if_pos hw] at h1
  rw [if_pos hw]
  rcases h1 with h1 | ⟨_, a0, w0, h1⟩
  · exact opW_of_wp onlyN_false h1
  · exact (onlyN_false _ _ _ (by simp) h1).elim
end Go.Proofs.Ytajipgcnpemifaa
