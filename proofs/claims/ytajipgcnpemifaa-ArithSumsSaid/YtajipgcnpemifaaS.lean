/- A drawn region walked in one order of your own: free operations taken first wherever they are ready, chained ones as they come. -/
import Derived.Test.YtajipgcnpemifaaQ
namespace Go.Proofs.Ytajipgcnpemifaa

section
variable {P : Program} {md : Region.Mode} {ops : Array Oper} {L : Act → World → Prop}

/-- The walk: a free operation (its class, or none), or a chained one (the classes that hold behind it). -/
def wpMix (P : Program) (ops : Array Oper) (c : Nat → World → Prop) (L : Act → World → Prop) : List (Oper × (Option Nat ⊕ List Nat)) → Act → World → Prop
  | [], a, w => L a w
  | (o, .inl k) :: r, a, w => if Region.wanted o (yielded ops a.tmps) then ∃ v, (∀ w', cls c k w' → lateUpon w' v ((execOp a.eval o).run P w')) ∧ wpMix P ops c L r (a.put o.dst v) w else wpMix P ops c L r (a.put o.dst undef) w
  | (o, .inr ks) :: r, a, w => if Region.wanted o (yielded ops a.tmps) then opW P o a w (fun a' w' => (∀ k ∈ ks, c k w') ∧ wpMix P ops c L r a' w') else wpMix P ops c L r (a.put o.dst undef) w

def tails (S : List (Nat × (Option Nat ⊕ List Nat))) : List (Nat × List Nat) := S.filterMap fun p => match p.2 with | .inl _ => none | .inr ks => some (p.1, ks)

def live : Option (List Nat) → Nat → Bool
  | none, _ => true
  | some l, k => l.contains k

def mixB (md : Region.Mode) (ops : Array Oper) (T : List (Nat × List Nat)) : List (Nat × (Option Nat ⊕ List Nat)) → Option (List Nat) → Array Bool → Bool
  | [], _, s => (Region.ready md ops s).isEmpty
  | (i, .inl k) :: r, lv, s => (Region.ready md ops s).contains i && Region.free md ops s i && (T.lookup i).isNone &&
      (match k with | none => true | some k => live lv k && T.all fun p => p.2.contains k || reaches md ops ops.size p.1 i) && mixB md ops T r lv (s.setIfInBounds i true)
  | (i, .inr ks) :: r, lv, s => decide (Region.ready md ops s = [i]) && (T.lookup i == some ks) && ks.all (live lv) && mixB md ops T r (some ks) (s.setIfInBounds i true)

theorem mem_of_lookup {α : Type} : ∀ (T : List (Nat × α)) (j : Nat) (k : α), T.lookup j = some k → (j, k) ∈ T := by
  intro T
  induction T with
  | nil => intro j k h; cases h
  | cons p r ih =>
    obtain ⟨t, k'⟩ := p
    intro j k h
    rw [List.lookup_cons] at h
    split at h
    · rename_i hjt
      have : j = t := by simpa using hjt
      subst this
      simp only [Option.some.injEq] at h
      subst h
      simp
    · exact List.mem_cons_of_mem _ (ih j k h)

theorem anyC_of_mix {c : Nat → World → Prop} {T : List (Nat × List Nat)} (hsel : Region.noSelect ops = true) :
    ∀ (S : List (Nat × (Option Nat ⊕ List Nat))) (lv : Option (List Nat)) (s : Array Bool) (a : Act) (w : World), (∀ k, live lv k = true → c k w) → Closed md ops s → (∀ p ∈ S, p.1 < ops.size) →
    mixB md ops T S lv s = true → wpMix P ops c L (pickK ops S) a w → anyC P md ops (does c T) L S.length s a w := by
  intro S
  induction S with
  | nil => intro lv s a w _ _ _ hB h; exact ⟨by simpa [mixB] using hB, h⟩
  | cons p r ih =>
    obtain ⟨i, kk⟩ := p
    intro lv s a w hw hs hl hB h
    obtain ⟨o0, h0⟩ : ∃ o, ops[i]? = some o := ⟨_, Array.getElem?_eq_getElem (hl (i, kk) (by simp))⟩
    rw [pickK_cons h0] at h
    have hl' : ∀ p ∈ r, p.1 < ops.size := fun p hp => hl p (by simp [hp])
    cases kk with
    | inl k =>
      simp only [mixB, Bool.and_eq_true] at hB
      obtain ⟨⟨⟨⟨hr, hf⟩, hnone⟩, hk⟩, hB'⟩ := hB
      have hr' : i ∈ Region.ready md ops s := by simpa using hr
      have hlk : T.lookup i = none := by simpa using hnone
      have hcw : cls c k w := by
        cases k with
        | none => trivial
        | some k => simp only [Bool.and_eq_true] at hk; exact hw k hk.1
      have hRi : ∀ w, does c T i w w := fun w => by unfold does; rw [hlk]; exact fun _ h => h
      have hR : ∀ j, j ≠ i → reaches md ops ops.size j i = false → ∀ w w', does c T j w w' → cls c k w → cls c k w' := by
        intro j _ hnr w w' hd hc
        cases k with
        | none => trivial
        | some k =>
          simp only [Bool.and_eq_true] at hk
          unfold does at hd
          split at hd
          · rename_i ks hks
            have h1 := List.all_eq_true.1 hk.2 (j, ks) (mem_of_lookup T j ks hks)
            simp only [hnr, Bool.or_false] at h1
            exact hd k (by simpa using h1)
          · exact hd k hc
      rw [List.length_cons]
      simp only [wpMix] at h
      split at h
      · rename_i hwn
        obtain ⟨v, h1, h2⟩ := h
        exact anyC_first h0 (Region.noSelect_spec hsel) hR hRi _ s a w hcw hs (Region.free_spec h0 hf) hr' (.inl ⟨hwn, h1⟩) (ih lv _ _ w hw (hs.set hr') hl' hB' h2)
      · rename_i hwn
        exact anyC_first h0 (Region.noSelect_spec hsel) hR hRi _ s a w hcw hs (Region.free_spec h0 hf) hr' (.inr ⟨by simpa using hwn, rfl⟩) (ih lv _ _ w hw (hs.set hr') hl' hB' h)
    | inr ks =>
      simp only [mixB, Bool.and_eq_true, decide_eq_true_eq] at hB
      obtain ⟨⟨⟨hr, hlk⟩, hks⟩, hB'⟩ := hB
      have hlk' : T.lookup i = some ks := by simpa using hlk
      have hr' : i ∈ Region.ready md ops s := by rw [hr]; simp
      refine ⟨fun h1 => (by rw [hr] at h1; cases h1), fun j hj => ?_⟩
      rw [hr] at hj
      have hji : j = i := by simpa using hj
      subst hji
      simp only [wpMix] at h
      unfold opC
      simp only [h0]
      split
      · rename_i hwn
        rw [if_pos hwn] at h
        refine opW_mono (fun a' w' h2 => ⟨?_, ih (some ks) _ a' w' (fun k hk => h2.1 k (by simpa [live] using hk)) (hs.set hr') hl' hB' h2.2⟩) h
        unfold does
        rw [hlk']
        exact h2.1
      · rename_i hwn
        rw [if_neg hwn] at h
        exact ih (some ks) _ _ w (fun k hk => hw k (List.all_eq_true.1 hks k (by simpa [live] using hk))) (hs.set hr') hl' hB' h

theorem mix_nil {c : Nat → World → Prop} {a : Act} {w : World} (h : L a w) : wpMix P ops c L [] a w := h
/-- A free operation that asks nothing of the world. -/
theorem mix_free {c : Nat → World → Prop} {a : Act} {w : World} {o : Oper} {r : List (Oper × (Option Nat ⊕ List Nat))}
    (h : ∀ K : Act → Prop, (∀ a, wpMix P ops c L r a w → K a) → if Region.wanted o (yielded ops a.tmps) then ∃ v, (∀ w', True → lateUpon w' v ((execOp a.eval o).run P w')) ∧ K (a.put o.dst v) else K (a.put o.dst undef)) :
    wpMix P ops c L ((o, .inl none) :: r) a w := h (fun a => wpMix P ops c L r a w) (fun _ h => h)
/-- A free operation whose value the class tells. -/
theorem mix_load {c : Nat → World → Prop} {a : Act} {w : World} {o : Oper} {k : Nat} {r : List (Oper × (Option Nat ⊕ List Nat))}
    (h : ∀ K : Act → Prop, (∀ a, wpMix P ops c L r a w → K a) → if Region.wanted o (yielded ops a.tmps) then ∃ v, (∀ w', c k w' → lateUpon w' v ((execOp a.eval o).run P w')) ∧ K (a.put o.dst v) else K (a.put o.dst undef)) :
    wpMix P ops c L ((o, .inl (some k)) :: r) a w := h (fun a => wpMix P ops c L r a w) (fun _ h => h)
theorem mix_val {c : Nat → World → Prop} {a : Act} {w : World} {o : Oper} {k : Nat} {r : List (Oper × (Option Nat ⊕ List Nat))} (v : Value) (hw : Region.wanted o (yielded ops a.tmps) = true)
    (h : ∀ w', c k w' → lateUpon w' v ((execOp a.eval o).run P w')) (hn : ∀ K : Act → Prop, (∀ a, wpMix P ops c L r a w → K a) → K (a.put o.dst v)) : wpMix P ops c L ((o, .inl (some k)) :: r) a w := by
  simp only [wpMix, hw, if_true]
  exact ⟨v, h, hn (fun a => wpMix P ops c L r a w) (fun _ h => h)⟩
/-- A chained one. -/
theorem mix_step {c : Nat → World → Prop} {a : Act} {w : World} {o : Oper} {ks : List Nat} {r : List (Oper × (Option Nat ⊕ List Nat))}
    (h : ∀ K : Act → World → Prop, (∀ a w, (∀ k ∈ ks, c k w) → wpMix P ops c L r a w → K a w) → wpList P ops (OnlyN fun _ a' w' => K a' w') [o] a w) (hC : ∀ k ∈ ks, c k w) : wpMix P ops c L ((o, .inr ks) :: r) a w := by
  have h1 := h (fun a' w' => (∀ k ∈ ks, c k w') ∧ wpMix P ops c L r a' w') (fun _ _ h1 h2 => ⟨h1, h2⟩)
  simp only [wpMix]
  simp only [wpList] at h1
  split
  · rename_i hw
    rw [if_pos hw] at h1
    rcases h1 with h1 | ⟨_, a0, w0, h1⟩
    · exact opW_of_wp onlyN_false h1
    · exact (onlyN_false _ _ _ (by simp) h1).elim
  · rename_i hw
    rw [if_neg hw] at h1
    exact h1.2
end

def mixesB (ops : Array Oper) (S : List (Nat × (Option Nat ⊕ List Nat))) : Bool :=
  Region.noSelect ops && S.all (fun p => decide (p.1 < ops.size)) && decide (S.length = ops.size) && mixB .any ops (tails S) S none (Array.replicate ops.size false)

theorem region_mix {P : Program} {id : Nat} {Q : Exit → Act → World → Prop} {a : Act} {w : World} {ops : List Oper} (S : List (Nat × (Option Nat ⊕ List Nat))) (c : Nat → World → Prop)
    (hm : P.follows .mixedOrders = true) (hB : mixesB ops.toArray S = true) (hC : ∀ k, c k (w.drewN 1))
    (h : wpMix P ops.toArray c (fun a w => Q .normal a w) (pickK ops.toArray S) a (w.drewN 1)) :
    (Code.region id ops.toArray true).wp P Q a w := by
  simp only [mixesB, Bool.and_eq_true, decide_eq_true_eq, List.all_eq_true] at hB
  obtain ⟨⟨⟨hsel, hlt⟩, hlen⟩, hmix⟩ := hB
  refine (wpIn_wide (n := 0)).1 (wpIn_region_any hm (any_of_anyC (r := none) (R := does c (tails S)) (L := fun a w => Q .normal a w) (.inl rfl) (fun _ _ h => h) _ _ _ _ ?_))
  rw [← hlen]
  refine anyC_of_mix hsel S none _ a (w.drewN 1) (fun k _ => hC k) ?_ hlt (by rw [← hlen] at hmix; exact hmix) h
  intro j o _ hl
  rw [getD_replicate_false] at hl
  cases hl
end Go.Proofs.Ytajipgcnpemifaa
