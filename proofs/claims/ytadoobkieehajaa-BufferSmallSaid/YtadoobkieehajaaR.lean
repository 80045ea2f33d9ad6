/- A range over a function, outermost, where it is known what comes in each round: the loop's law, the rounds counted. -/
import Derived.RangeFuncWrites
import Derived.RangeFuncLeaves
import Derived.Deep.Draws
namespace Go.Proofs.Ytadoobkieehajaa
open Go.RowKit
variable {P : Program}

/-- The iterator's contract: N rounds, the k-th with the values encs k; it stops where a round says so; Kp is what a round keeps. -/
def Iter (P : Program) (gf : Nat) (lb : Array Value) (N : Nat) (encs : Nat → Array Value) (Kp : World → World → Prop) (w : World) : Prop :=
  ∀ (m l : Nat) (J : Nat → World → Prop) (Jx : World → Prop) (W : World), Below w.heap.size w W → (∀ k X d, J k X → J k (X.drewN d)) →
    (∀ k X, k < N → J k X → YieldAt Fence.wide (m - 1) P l (encs k) X fun e X' => (e = .returned (.bool true) ∧ J (k + 1) X' ∧ Kp X X') ∨ (e = .returned (.bool false) ∧ Jx X')) →
    J 0 W → CallsIn Fence.wide m P gf (#[.func (.yield l) #[] #[]] ++ lb) W fun e W' => (∃ v, e = .returned v) ∧ (J N W' ∨ Jx W')

/-- How a round may be left. -/
def roundEnd (B : Nat) (Kp : World → World → Prop) (I : World → Prop) (Ix : Code → World → Prop) (W : World) : Exit → Act → World → Prop
  | .normal, _, W' => KeepsFrom B W W' ∧ Kp W W' ∧ I W'
  | .ret, _, W' => KeepsFrom B W W' ∧ Ix .ret W'
  | .exit id, _, W' => KeepsFrom B W W' ∧ Ix (.exit id) W'
  | .goto t, _, W' => KeepsFrom B W W' ∧ Ix (.goto t) W'
  | .panic _, _, _ => False
  | .outgrown, _, _ => False

/-- What speaks of cells, and of what lay below B, alone. -/
def CellsAbove (B : Nat) (I : World → Prop) : Prop := ∀ A C row, I A → A.grownBy C row → (∀ r, row = some r → B ≤ r ∧ ∃ o, A.heap[r]? = some o ∧ o.isCells = false) → I C

theorem CellsAbove.put {B : Nat} {I : World → Prop} (h : CellsAbove B I) {A : World} {r : Nat} {o : Obj} (hi : I A) (hr : B ≤ r) (ho : A.heap[r]? = some o) (hc : o.isCells = false) (o' : Obj) : I (A.putObj r o') :=
  h A _ (some r) hi (grownBy_putObj' A r o') (fun j e => by cases e; exact ⟨hr, o, ho, hc⟩)
theorem CellsAbove.new {B : Nat} {I : World → Prop} (h : CellsAbove B I) {A : World} (hi : I A) (o : Obj) : I (A.alloc o) :=
  h A _ none hi (World.grownBy_alloc A o none) (fun j e => by cases e)

theorem range_law {g : Operand} {ps : Array Tmp} {assign body : Code} {Q : Exit → Act → World → Prop} {a : Act} {w : World} {n : Nat}
    {gf : Nat} {lb : Array Value} (hg : a.eval g = .func (.func gf) #[] lb) (eg : ∀ args w, (callFunc gf args).run P w = .ok (.enter gf args) w)
    {N : Nat} {encs : Nat → Array Value} {Kp : World → World → Prop} (hit : Iter P gf lb N encs Kp w) (hps : ∀ k, (encs k).size = ps.size)
    (hKt : ∀ {A B C : World}, Kp A B → Kp B C → Kp A C) (hKb : ∀ (W : World) (l : Nat) (o : Obj), w.heap.size ≤ l → Kp W (W.putObj l o))
    (I : Nat → World → Prop) (Ix : Code → World → Prop) (hI : ∀ k, CellsAbove w.heap.size (I k)) (hIx : ∀ c, CellsAbove w.heap.size (Ix c)) (h0 : I 0 w) (a₁ : Nat → Act)
    (hassign : ∀ (l k : Nat) (W : World) (K : Act → World → Prop), K (a₁ k) W →
      assign.wpIn (Fence.wide.inRound l) (n - 1 - 1) P (Exit.then K (fun _ _ _ => False)) { tmps := (ps.zip (encs k)).foldl (fun t (p, v) => t.setIfInBounds p v) a.tmps, defers := [] } W)
    (hbody : ∀ (l k : Nat) (W : World), k < N → I k W → body.wpIn (Fence.wide.inRound l) (n - 1 - 1) P (roundEnd w.heap.size Kp (I (k + 1)) Ix W) (a₁ k) W)
    (hdone : ∀ (W : World), I N W → W.heap[w.heap.size]? = some (.deferred (some [])) → Q .normal { a with defers := { target := .collected w.heap.size, args := #[] } :: a.defers } W)
    (hstop : ∀ (c : Code) (W : World), Ix c W → W.heap[w.heap.size]? = some (.deferred (some [])) → c.wpIn Fence.wide n P Q { a with defers := { target := .collected w.heap.size, args := #[] } :: a.defers } W) :
    (Code.rangeFunc g ps assign body).wpIn Fence.wide n P Q a w := by
  have hdep : Fence.wide.depth.isSome = true → 1 ≤ n := fun h => by simp [Fence.wide] at h
  refine wpIn_rangeFunc fun fn hfn => ?_
  let rec' : LoopState → Option Code → Loop := fun st pe => { state := st, pending := pe, fn, tmps := a.tmps, params := ps, assign, body, defers := w.heap.size }
  let W1 := (w.alloc (.deferred (some []))).alloc (.loop (rec' .ready none))
  have eL : W1.heap[w.heap.size + 1]? = some (.loop (rec' .ready none)) := by
    have := World.alloc_heap_new (w.alloc (.deferred (some []))) (.loop (rec' .ready none)); rwa [World.size_alloc] at this
  have eD : W1.heap[w.heap.size]? = some (.deferred (some [])) := (Below.heap_alloc _ _ _ (by simp)).trans (World.alloc_heap_new w _)
  have hb1 : Below w.heap.size w W1 := ((Below.refl _ w).alloc (Nat.le_refl _) _).alloc (by simp) _
  refine ⟨w.heap.size + 1, [{ target := .collected w.heap.size, args := #[] }], W1, { target := .fn (.func gf) lb, args := #[.func (.yield (w.heap.size + 1)) #[] #[]] }, W1, gf,
    #[.func (.yield (w.heap.size + 1)) #[] #[]] ++ lb, W1, run_enterLoop_outer _ _ _ _ _, ?_, fun _ _ => trivial, ?_, hdep, ?_⟩
  · simp only [resolve, hg]
    simp [go_sem]
  · simp [invoke, go_sem, eg]
  refine (hit (n - 1) (w.heap.size + 1)
    (fun k W => I k W ∧ W.heap[w.heap.size + 1]? = some (.loop (rec' .ready none)) ∧ W.heap[w.heap.size]? = some (.deferred (some [])))
    (fun W => ∃ c, Ix c W ∧ W.heap[w.heap.size + 1]? = some (.loop (rec' .done (some c))) ∧ W.heap[w.heap.size]? = some (.deferred (some [])))
    W1 hb1 (fun k X d ⟨x1, x2, x3⟩ => ⟨hI k X _ none x1 ⟨by induction d generalizing X <;> simp_all [World.drewN], by rw [World.tape_drewN], by induction d generalizing X <;> simp_all [World.drewN], by rw [World.heap_drewN]; exact Nat.le_refl _, fun _ _ _ => by rw [World.heap_drewN]⟩ (fun r e => by cases e),
      by rw [World.heap_drewN]; exact x2, by rw [World.heap_drewN]; exact x3⟩)
    ?_ ⟨(hI 0).new ((hI 0).new h0 _) _, eL, eD⟩).mono ?_
  · rintro k X hk ⟨hi, hl, hd⟩
    have hlt : w.heap.size + 1 < X.heap.size := (Array.getElem?_eq_some_iff.1 hl).1
    refine ⟨fn, _, assign, body, run_yield (P := P) (args := encs k) hl (hps k), roundIn_of_wpIn hfn (hassign _ k X _ ⟨_, run_beginRound hl rfl, ?_⟩)⟩
    let X2 := X.putObj (w.heap.size + 1) (.loop { rec' .ready none with state := .busy })
    have hl2 : X2.heap[w.heap.size + 1]? = some (.loop { rec' .ready none with state := .busy }) := World.putObj_heap_same hlt
    have hd2 : X2.heap[w.heap.size]? = some (.deferred (some [])) := (World.putObj_heap_other (by omega)).trans hd
    refine wpIn_mono (hbody _ k X2 hk ((hI k).put hi (by omega) hl rfl _)) ?_
    have fin : ∀ (jump : Option Code) (X3 : World), KeepsFrom w.heap.size X2 X3 →
        (Instr.endRound (w.heap.size + 1) jump).run P X3 = .ok (.bool jump.isNone) (X3.putObj (w.heap.size + 1) (.loop (rec' (if jump.isNone then .ready else .done) jump))) ∧
        X3.heap[w.heap.size + 1]? = some (.loop { rec' .ready none with state := .busy }) ∧
        (X3.putObj (w.heap.size + 1) (.loop (rec' (if jump.isNone then .ready else .done) jump))).heap[w.heap.size + 1]? = some (.loop (rec' (if jump.isNone then .ready else .done) jump)) ∧
        (X3.putObj (w.heap.size + 1) (.loop (rec' (if jump.isNone then .ready else .done) jump))).heap[w.heap.size]? = some (.deferred (some [])) := fun jump X3 hk3 => by
      have hl3 := hk3.same _ _ (by omega) hl2 rfl
      exact ⟨run_endRound (P := P) jump hl3, hl3, World.putObj_heap_same (Array.getElem?_eq_some_iff.1 hl3).1, (World.putObj_heap_other (by omega)).trans (hk3.same _ _ (Nat.le_refl _) hd2 rfl)⟩
    rintro e a3 X3 hp
    cases e with
    | normal =>
      obtain ⟨hk3, hkp, hi3⟩ := hp
      obtain ⟨hr, hl3, hl4, hd4⟩ := fin none X3 hk3
      exact ⟨_, _, hr, .inl ⟨rfl, ⟨(hI _).put hi3 (by omega) hl3 rfl _, hl4, hd4⟩, hKt (hKt (hKb _ _ _ (by omega)) hkp) (hKb _ _ _ (by omega))⟩⟩
    | ret =>
      obtain ⟨hk3, hi3⟩ := hp
      obtain ⟨hr, hl3, hl4, hd4⟩ := fin (some .ret) X3 hk3
      exact ⟨_, _, hr, .inr ⟨rfl, .ret, (hIx _).put hi3 (by omega) hl3 rfl _, hl4, hd4⟩⟩
    | exit id =>
      obtain ⟨hk3, hi3⟩ := hp
      obtain ⟨hr, hl3, hl4, hd4⟩ := fin (some (.exit id)) X3 hk3
      exact ⟨_, _, hr, .inr ⟨rfl, .exit id, (hIx _).put hi3 (by omega) hl3 rfl _, hl4, hd4⟩⟩
    | goto t =>
      obtain ⟨hk3, hi3⟩ := hp
      obtain ⟨hr, hl3, hl4, hd4⟩ := fin (some (.goto t)) X3 hk3
      exact ⟨_, _, hr, .inr ⟨rfl, .goto t, (hIx _).put hi3 (by omega) hl3 rfl _, hl4, hd4⟩⟩
    | panic ch => exact hp.elim
    | outgrown => exact hp.elim
  · rintro e X ⟨⟨v, rfl⟩, ⟨hi, hl, hd⟩ | ⟨c, hi, hl, hd⟩⟩
    · exact ⟨none, _, run_endLoop (P := P) hl (by simp [rec']), hdone _ ((hI N).put hi (by omega) hl rfl _) ((World.putObj_heap_other (by omega)).trans hd)⟩
    · exact ⟨some c, _, run_endLoop (P := P) hl (by simp [rec']), hstop c _ ((hIx c).put hi (by omega) hl rfl _) ((World.putObj_heap_other (by omega)).trans hd)⟩

/-! ### A function that holds such loops, at its return -/

/-- The marks of loops that are over. -/
def marks (Ds : List Nat) : List Deferred := Ds.map fun D => { target := .collected D, args := #[] }

theorem leaves_marks {n : Nat} {fn : Func} {tmps : Array Value} {R : Ending → World → Prop} : ∀ (Ds : List Nat) (W : World), Ds.Nodup → (∀ D ∈ Ds, W.heap[D]? = some (.deferred (some []))) →
    (∀ W', W'.os = W.os → W'.tape = W.tape → W'.output = W.output → W.heap.size = W'.heap.size → (∀ k, k ∉ Ds → W'.heap[k]? = W.heap[k]?) → ∃ v, (results fn tmps).run P W' = .ok v W' ∧ R (.returned v) W') →
    LeavesInM Fence.wide n P fn tmps R (marks Ds) .returning W := by
  intro Ds
  induction Ds with
  | nil =>
    intro W _ _ h
    obtain ⟨v, h1, h2⟩ := h W rfl rfl rfl rfl (fun _ _ => rfl)
    exact ⟨v, h1, h2⟩
  | cons D Ds ih =>
    intro W hnd hD h
    have hD0 := hD D (by simp)
    have hg := grownBy_putObj' W D (.deferred none)
    have hsz : (W.putObj D (.deferred none)).heap.size = W.heap.size := by simp [World.putObj]
    refine ⟨by simp, .inl ⟨D, _, rfl, run_takeDeferred hD0, ih _ (List.nodup_cons.1 hnd).2 (fun E hE => ?_) (fun W' h1 h2 h3 h4 h5 => h W' (h1.trans hg.os) (h2.trans hg.tape) (h3.trans hg.output) (by rw [← h4, hsz])
      (fun k hk => (h5 k (fun x => hk (by simp [x]))).trans (World.putObj_heap_other (fun e => hk (by simp [e])))))⟩⟩
    have hne : E ≠ D := fun e => (List.nodup_cons.1 hnd).1 (e ▸ hE)
    exact (World.putObj_heap_other hne).trans (hD E (by simp [hE]))
end Go.Proofs.Ytadoobkieehajaa
