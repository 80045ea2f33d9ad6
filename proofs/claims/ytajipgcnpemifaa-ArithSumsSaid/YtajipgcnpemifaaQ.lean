/- A region that draws its order, in three parts: 'late' operations, which may come up anywhere and yield the same in every world of a class of their own (numbered; none: in every world); 'early' ones, which only read and stand ahead of all that writes (calls that only read among them); a tail in one order, which may write: each of its operations says which classes hold behind it. One walk (late, early, tail) serves every order. -/
import Derived.StillTail
import Derived.Deep.Quiet
import Derived.OrdersIn
import Derived.TacticsIn
namespace Go.Proofs.Ytajipgcnpemifaa

/-- The post of a normal end alone. -/
def OnlyN (Q : Exit → Act → World → Prop) : Exit → Act → World → Prop
  | .normal, a, w => Q .normal a w
  | _, _, _ => False

/-- What a late operation does: a value, in the very world. -/
def lateUpon (w : World) (v : Value) : Result Next → Prop
  | .ok (.value u) w' => w' = w ∧ u = v
  | .ok .skip w' => w' = w ∧ v = undef
  | _ => False

section
variable {P : Program} {ops : Array Oper} {md : Region.Mode} {C C0 : World → Prop} {L : Act → World → Prop}

def wpLate (P : Program) (ops : Array Oper) (C : World → Prop) (Q : Act → Prop) : List Oper → Act → Prop
  | [], a => Q a
  | o :: r, a => if Region.wanted o (yielded ops a.tmps) then ∃ v, (∀ w, C w → lateUpon w v ((execOp a.eval o).run P w)) ∧ wpLate P ops C Q r (a.put o.dst v) else wpLate P ops C Q r (a.put o.dst undef)

theorem wpLate_nil {Q : Act → Prop} {a : Act} (h : Q a) : wpLate P ops C Q [] a := h
theorem wpLate_step {Q : Act → Prop} {a : Act} {o : Oper} {rest : List Oper}
    (h : ∀ K : Act → Prop, (∀ a, wpLate P ops C Q rest a → K a) → if Region.wanted o (yielded ops a.tmps) then ∃ v, (∀ w, C w → lateUpon w v ((execOp a.eval o).run P w)) ∧ K (a.put o.dst v) else K (a.put o.dst undef)) :
    wpLate P ops C Q (o :: rest) a := h _ (fun _ h => h)
theorem lateUpon_value (w : World) (v u : Value) : lateUpon w v (.ok (.value u) w) = (u = v) := by simp [lateUpon]
attribute [go_sem] lateUpon_value
theorem lateUpon_skip (w : World) (v : Value) : lateUpon w v (.ok .skip w) = (v = undef) := by simp [lateUpon]

def Late (P : Program) (ops : Array Oper) (C : World → Prop) (o : Oper) (v : Value) (a : Act) : Prop :=
  (Region.wanted o (yielded ops a.tmps) = true ∧ ∀ w, C w → lateUpon w v ((execOp a.eval o).run P w)) ∨ (Region.wanted o (yielded ops a.tmps) = false ∧ v = undef)

theorem Late.of_same {o : Oper} {v : Value} {a a' : Act} (hy : Late P ops C o v a) (he : execOp a'.eval o = execOp a.eval o)
    (hw : Region.wanted o (yielded ops a'.tmps) = Region.wanted o (yielded ops a.tmps)) : Late P ops C o v a' := by
  unfold Late at *
  rw [he, hw]
  exact hy

/-- What an operation comes to, where it does not leave the region: calls, and rounds of a loop over an iterator, among it. -/
def upW (P : Program) (o : Oper) (a : Act) (next : Act → World → Prop) : Result Next → Prop
  | .ok (.value v) w' => next (a.put o.dst v) w'
  | .ok .skip w' => next (a.put o.dst undef) w'
  | .ok (.defer d) w' => next ({ a with defers := d :: a.defers }.put o.dst undef) w'
  | .ok (.enter f args) w' => Calls P f args w' fun e w'' => ∃ v, e = .returned v ∧ next (a.put o.dst v) w''
  | .ok (.row row args) w' => Rows P row args w' fun v w'' => next (a.put o.dst v) w''
  | .ok (.round l f tmps assign body) w' => RoundIn Fence.wide 0 P l f tmps assign body w' fun e w'' => ∃ v, e = .returned v ∧ next (a.put o.dst v) w''
  | _ => False

def opW (P : Program) (o : Oper) (a : Act) (w : World) (next : Act → World → Prop) : Prop := upW P o a next ((execOp a.eval o).run P w)

theorem opW_mono {o : Oper} {a : Act} {w : World} {K K' : Act → World → Prop} (h : ∀ a w, K a w → K' a w) (hh : opW P o a w K) : opW P o a w K' := by
  unfold opW at *
  generalize (execOp a.eval o).run P w = r at *
  cases r with
  | ok n w' =>
    cases n <;> simp only [upW] at hh ⊢ <;>
      first
        | exact h _ _ hh
        | exact Calls.mono hh (fun e w'' ⟨v, e1, e2⟩ => ⟨v, e1, h _ _ e2⟩)
        | exact Rows.mono hh (fun _ _ he => h _ _ he)
        | exact RoundIn.mono hh (fun e w'' ⟨v, e1, e2⟩ => ⟨v, e1, h _ _ e2⟩)
  | halt x w' => simp only [upW] at hh

/-- The fence that bars nothing, for an activation of a function or for a round. -/
def Open (r : Option Nat) : Fence := { Fence.wide with round := r }
theorem callsIn_open {r : Option Nat} {n : Nat} {f : FuncId} {args : Array Value} {w : World} {R : Ending → World → Prop} : CallsIn (Open r) n P f args w R ↔ Calls P f args w R := callsIn_wide (n := n)
theorem rowsIn_open {r : Option Nat} {n : Nat} {f : String} {args : Array Value} {w : World} {R : Value → World → Prop} : RowsIn (Open r) n P f args w R ↔ Rows P f args w R :=
  ⟨fun h c cs => let ⟨v, w', x, y⟩ := h c cs (room_wide _); ⟨v, w', x, stepsIn_wide.1 y⟩, fun h c cs _ => let ⟨v, w', x, y⟩ := h c cs; ⟨v, w', x, stepsIn_wide.2 y⟩⟩
theorem roundIn_open {r : Option Nat} {n m : Nat} {l : Nat} {f : FuncId} {tmps : Array Value} {as bd : Code} {w : World} {R : Ending → World → Prop} (h : RoundIn Fence.wide m P l f tmps as bd w R) : RoundIn (Open r) n P l f tmps as bd w R :=
  ⟨trivial, fun c cs _ => h.2 c cs (room_wide _)⟩
theorem roundIn_shut {r : Option Nat} {n m : Nat} {l : Nat} {f : FuncId} {tmps : Array Value} {as bd : Code} {w : World} {R : Ending → World → Prop} (h : RoundIn (Open r) n P l f tmps as bd w R) : RoundIn Fence.wide m P l f tmps as bd w R :=
  ⟨trivial, fun c cs _ => h.2 c cs (room_wide _)⟩

theorem wpIn_of_opW {r : Option Nat} {n : Nat} {o : Oper} {a : Act} {w : World} {K : Act → World → Prop} {Q : Exit → Act → World → Prop} (hd : r = none ∨ ∀ c, o.op ≠ .defer c) (hh : opW P o a w K) : o.wpIn (Open r) n P a w K Q := by
  refine ⟨fun _ _ => trivial, ?_⟩
  have hs : (o.semAt (Open r).round a.eval).run P w = (execOp a.eval o).run P w := by
    show (o.semAt r a.eval).run P w = _
    rcases hd with rfl | hd
    · rw [Oper.semAt_none]
    · rw [Oper.semAt_eq _ _ _ hd]
  rw [hs]
  unfold opW at hh
  generalize (execOp a.eval o).run P w = r' at *
  have hdep : (Open r).depth.isSome = true → 1 ≤ n := fun h => by simp [Open, Fence.wide] at h
  cases r' with
  | ok x w' =>
    cases x <;> simp only [upW] at hh <;> simp only [Oper.uponIn] <;>
      first
        | exact hh
        | exact ⟨hdep, callsIn_open.2 (Calls.mono hh (fun e w'' ⟨v, e1, e2⟩ => by subst e1; exact e2))⟩
        | exact ⟨hdep, rowsIn_open.2 hh⟩
        | exact ⟨hdep, roundIn_open (RoundIn.mono hh (fun e w'' ⟨v, e1, e2⟩ => by subst e1; exact e2))⟩
  | halt x w' => simp only [upW] at hh

theorem opW_of_wp {o : Oper} {a : Act} {w : World} {K : Act → World → Prop} {Q : Exit → Act → World → Prop} (hQ : ∀ e a w, e ≠ .normal → ¬ Q e a w) (hh : o.wp P a w K Q) : opW P o a w K := by
  unfold Oper.wp at hh
  unfold opW
  generalize (execOp a.eval o).run P w = r at *
  cases r with
  | ok n w' =>
    cases n <;> simp only [Oper.upon] at hh <;> simp only [upW] <;>
      first
        | exact hh
        | exact Calls.mono hh (fun e w'' he => by cases e <;> first | exact ⟨_, rfl, he⟩ | exact (hQ _ _ _ (by simp) he).elim | (obtain ⟨_, _, h⟩ := he; exact (hQ _ _ _ (by simp) h).elim))
  | halt x w' =>
    simp only [upW]
    cases x <;> simp only [Oper.upon] at hh
    exact hQ _ _ _ (by simp) hh

theorem opW_of_wpIn {r : Option Nat} {n : Nat} {o : Oper} {a : Act} {w : World} {K : Act → World → Prop} {Q : Exit → Act → World → Prop} (hd : r = none ∨ ∀ c, o.op ≠ .defer c) (hQ : ∀ e a w, e ≠ .normal → ¬ Q e a w) (hh : o.wpIn (Open r) n P a w K Q) : opW P o a w K := by
  have hh := hh.2
  have hs : (o.semAt (Open r).round a.eval).run P w = (execOp a.eval o).run P w := by
    show (o.semAt r a.eval).run P w = _
    rcases hd with rfl | hd
    · rw [Oper.semAt_none]
    · rw [Oper.semAt_eq _ _ _ hd]
  rw [hs] at hh
  unfold opW
  generalize (execOp a.eval o).run P w = r' at *
  cases r' with
  | ok n w' =>
    cases n <;> simp only [Oper.uponIn] at hh <;> simp only [upW] <;>
      first
        | exact hh
        | exact Calls.mono (callsIn_open.1 hh.2) (fun e w'' he => by cases e <;> first | exact ⟨_, rfl, he⟩ | exact (hQ _ _ _ (by simp) he).elim | (obtain ⟨_, _, h⟩ := he; exact (hQ _ _ _ (by simp) h).elim))
        | exact rowsIn_open.1 hh.2
        | exact roundIn_shut (RoundIn.mono hh.2 (fun e w'' he => by cases e <;> first | exact ⟨_, rfl, he⟩ | exact (hQ _ _ _ (by simp) he).elim | (obtain ⟨_, _, h⟩ := he; exact (hQ _ _ _ (by simp) h).elim)))
  | halt x w' =>
    simp only [upW]
    cases x <;> simp only [Oper.uponIn] at hh
    exact hQ _ _ _ (by simp) hh

/-- Operation number i, from this state; it does not leave the region; R: what it does to the world. -/
def opC (P : Program) (ops : Array Oper) (R : World → World → Prop) (i : Nat) (K : Act → World → Prop) (a : Act) (w : World) : Prop :=
  match ops[i]? with
  | none => K a w
  | some o => if Region.wanted o (yielded ops a.tmps) then opW P o a w (fun a' w' => R w w' ∧ K a' w') else K (a.put o.dst undef) w

theorem opC_mono {R : World → World → Prop} {i : Nat} {a : Act} {w : World} {K K' : Act → World → Prop} (h : ∀ a' w', R w w' ∨ w' = w → K a' w' → K' a' w') (hh : opC P ops R i K a w) : opC P ops R i K' a w := by
  unfold opC at *
  split
  · exact h _ _ (.inr rfl) (by simpa [*] using hh)
  · rename_i o ho
    simp only [ho] at hh
    split
    · rename_i hwn; simp only [hwn, if_true] at hh; exact opW_mono (fun _ _ ⟨h1, h2⟩ => ⟨h1, h _ _ (.inl h1) h2⟩) hh
    · rename_i hwn; simp only [hwn] at hh; exact h _ _ (.inr rfl) hh

def anyC (P : Program) (md : Region.Mode) (ops : Array Oper) (R : Nat → World → World → Prop) (L : Act → World → Prop) : Nat → Array Bool → Act → World → Prop
  | 0, s, a, w => Region.ready md ops s = [] ∧ L a w
  | f + 1, s, a, w => (Region.ready md ops s = [] → L a w) ∧ ∀ i ∈ Region.ready md ops s, opC P ops (R i) i (anyC P md ops R L f (s.setIfInBounds i true)) a w

def noDefer (ops : Array Oper) : Bool := ops.all fun o => match o.op with | .defer _ => false | _ => true
theorem noDefer_spec (h : noDefer ops = true) (j : Nat) (o : Oper) (c : Call) (ho : ops[j]? = some o) : o.op ≠ .defer c := by
  intro heq
  have := Array.all_eq_true_iff_forall_mem.1 h o (Array.mem_of_getElem? ho)
  simp [heq] at this

theorem any_of_anyC {r : Option Nat} {n : Nat} {R : Nat → World → World → Prop} {Q : Exit → Act → World → Prop} (hd : r = none ∨ noDefer ops = true) (hL : ∀ a w, L a w → Q .normal a w) : ∀ (f : Nat) (s : Array Bool) (a : Act) (w : World), anyC P md ops R L f s a w → wpAnyIn (Open r) n P md ops Q f s a w := by
  intro f
  induction f with
  | zero => intro s a w h; exact ⟨h.1, hL _ _ h.2⟩
  | succ f ih =>
    intro s a w h
    refine ⟨fun h0 => hL _ _ (h.1 h0), fun i hi => ?_⟩
    have h1 := h.2 i hi
    unfold opC at h1
    unfold wpOpIn
    split
    · rename_i ho; simp only [ho] at h1; exact ih _ _ _ h1
    · rename_i o ho
      simp only [ho] at h1
      split
      · rename_i hwn; simp only [hwn, if_true] at h1; exact wpIn_of_opW (hd.imp id (fun h c => noDefer_spec h i o c ho)) (opW_mono (fun a' w' h2 => ih _ a' w' h2.2) h1)
      · rename_i hwn; simp only [hwn] at h1; exact ⟨fun _ _ => trivial, ih _ _ _ h1⟩

theorem opC_of_late {R : World → World → Prop} {i : Nat} {o : Oper} {v : Value} {a : Act} {w : World} {K : Act → World → Prop} (hi : ops[i]? = some o) (hw : C w) (hR : R w w) (hy : Late P ops C o v a) (h : K (a.put o.dst v) w) : opC P ops R i K a w := by
  unfold opC
  simp only [hi]
  rcases hy with ⟨hwn, hv⟩ | ⟨hwn, rfl⟩
  · simp only [hwn, if_true]
    have h1 := hv w hw
    unfold opW
    generalize (execOp a.eval o).run P w = r at *
    cases r with
    | ok n w' =>
      cases n <;> simp only [lateUpon] at h1 <;> simp only [upW]
      · obtain ⟨e1, e2⟩ := h1; rw [e1, e2]; exact ⟨hR, h⟩
      · obtain ⟨e1, e2⟩ := h1; rw [e1, ← e2]; exact ⟨hR, h⟩
    | halt x w' => simp only [lateUpon] at h1
  · simp only [hwn, Bool.false_eq_true, if_false]; exact h

theorem opC_put {R : World → World → Prop} {j : Nat} {oi oj : Oper} {v : Value} {a : Act} {w : World} {K : Act → World → Prop} (hj : ops[j]? = some oj) (hap : oi.apart ops oj = true)
    (hsi : ∀ cs b, oi.op ≠ .select cs b) (hsj : ∀ cs b, oj.op ≠ .select cs b)
    (hy : Late P ops C oi v a) (h : opC P ops R j K (a.put oi.dst v) w) :
    opC P ops R j (fun a' w' => Late P ops C oi v a' ∧ K (a'.put oi.dst v) w') a w := by
  obtain ⟨h1, h2, h3⟩ := Oper.apart_spec hap
  have keep : ∀ (a : Act), Late P ops C oi v a → ∀ u, Late P ops C oi v (a.put oj.dst u) := fun a hy u =>
    hy.of_same (execOp_put oi hsi a oj.dst u h3) (wanted_put oi a oj.dst u h3)
  have keepD : ∀ d, Late P ops C oi v { a with defers := d :: a.defers } := fun d => hy.of_same rfl rfl
  unfold opC at *
  simp only [hj] at *
  rw [wanted_put oj a oi.dst v h1] at h
  split
  · rename_i hwn
    simp only [hwn, if_true] at h
    unfold opW at *
    rw [execOp_put oj hsj a oi.dst v h1] at h
    generalize (execOp a.eval oj).run P w = r at *
    cases r with
    | ok n w' =>
      cases n <;> simp only [upW] at h ⊢
      case value u => exact ⟨h.1, keep a hy u, by rw [← Act.put_comm a v u h2]; exact h.2⟩
      case skip => exact ⟨h.1, keep a hy _, by rw [← Act.put_comm a v undef h2]; exact h.2⟩
      case defer d => exact ⟨h.1, keep _ (keepD d) _, by rw [← Act.put_comm _ v undef h2, ← Act.put_defers]; exact h.2⟩
      case enter f args => exact Calls.mono h fun e w'' ⟨u, e1, he⟩ => ⟨u, e1, he.1, keep a hy u, by rw [← Act.put_comm a v u h2]; exact he.2⟩
      case row row args => exact Rows.mono h fun u w'' he => ⟨he.1, keep a hy u, by rw [← Act.put_comm a v u h2]; exact he.2⟩
      case round l f tmps assign body => exact RoundIn.mono h fun e w'' ⟨u, e1, he⟩ => ⟨u, e1, he.1, keep a hy u, by rw [← Act.put_comm a v u h2]; exact he.2⟩
    | halt x w' => simp only [upW] at h
  · rename_i hwn
    simp only [hwn] at h
    exact ⟨keep a hy _, by rw [← Act.put_comm a v undef h2]; exact h⟩

/-- Does operation j wait for i, within f steps? -/
def reaches (md : Region.Mode) (ops : Array Oper) : Nat → Nat → Nat → Bool
  | 0, _, _ => false
  | f + 1, j, i => match ops[j]? with
    | none => false
    | some o => o.after.any fun e => Region.binds md e && (e.on == i || reaches md ops f e.on i)

/-- What is listed has all that it waits for listed. -/
def Closed (md : Region.Mode) (ops : Array Oper) (s : Array Bool) : Prop := ∀ (j : Nat) (o : Oper), ops[j]? = some o → s.getD j false = true → ∀ e ∈ o.after, Region.binds md e = true → s.getD e.on false = true

theorem listed_of_reaches {s : Array Bool} (hs : Closed md ops s) : ∀ (f j i : Nat), reaches md ops f j i = true →
    (∀ (o : Oper), ops[j]? = some o → ∀ e ∈ o.after, Region.binds md e = true → s.getD e.on false = true) → s.getD i false = true := by
  intro f
  induction f with
  | zero => intro j i h; simp [reaches] at h
  | succ f ih =>
    intro j i h hj
    unfold reaches at h
    split at h
    · cases h
    · rename_i o ho
      obtain ⟨e, he, hb⟩ := Array.any_eq_true'.1 h
      simp only [Bool.and_eq_true, Bool.or_eq_true, beq_iff_eq] at hb
      have hl := hj o ho e he hb.1
      rcases hb.2 with hb2 | hb2
      · rw [← hb2]; exact hl
      · exact ih e.on i hb2 (fun o' ho' => hs e.on o' ho' hl)

/-- Where i may come up, nothing that may come up waits for it. -/
theorem no_wait {s : Array Bool} (hs : Closed md ops s) {i j f : Nat} (hi : s.getD i true = false) (hj : j ∈ Region.ready md ops s) : reaches md ops f j i = false := by
  cases h : reaches md ops f j i with
  | false => rfl
  | true =>
    obtain ⟨_, oj, hoj, hall⟩ := mem_ready.1 hj
    have h1 := listed_of_reaches hs f j i h (fun o ho e he hb => by
      have : o = oj := Option.some.inj (ho.symm.trans hoj)
      subst this
      exact hall e he hb)
    rw [getD_both hi] at h1
    cases h1

theorem Closed.set {s : Array Bool} {i : Nat} (hs : Closed md ops s) (hi : i ∈ Region.ready md ops s) : Closed md ops (s.setIfInBounds i true) := by
  obtain ⟨_, oi, hoi, hall⟩ := mem_ready.1 hi
  intro j o hj hl e he hb
  by_cases hij : i = j
  · subst hij
    have : o = oi := Option.some.inj (hj.symm.trans hoi)
    subst this
    exact getD_set_true (hall e he hb)
  · rw [getD_set_ne false hij] at hl
    exact getD_set_true (hs j o hj hl e he hb)

/-- A late operation that may come up now may be taken first. -/
theorem anyC_first {R : Nat → World → World → Prop} {F i : Nat} {oi : Oper} {v : Value} (hi : ops[i]? = some oi) (hsel : ∀ (j : Nat) (o : Oper) cs b, ops[j]? = some o → o.op ≠ .select cs b)
    (hR : ∀ j, j ≠ i → reaches md ops F j i = false → ∀ w w', R j w w' → C w → C w') (hRi : ∀ w, R i w w) :
    ∀ (f : Nat) (s : Array Bool) (a : Act) (w : World), C w → Closed md ops s →
      (∀ j oj, ops[j]? = some oj → j ≠ i → s.getD j true = false → (∀ e ∈ oj.after, Region.binds md e = true → e.on ≠ i) → oi.apart ops oj = true) →
      i ∈ Region.ready md ops s → Late P ops C oi v a →
      anyC P md ops R L f (s.setIfInBounds i true) (a.put oi.dst v) w → anyC P md ops R L (f + 1) s a w := by
  intro f
  induction f with
  | zero =>
    intro s a w hw _ _ hr hy H
    refine ⟨fun h => absurd h (List.ne_nil_of_mem hr), fun j hj => ?_⟩
    by_cases hji : j = i
    · subst hji; exact opC_of_late hi hw (hRi w) hy H
    · have := ready_mono hj hji
      rw [H.1] at this
      cases this
  | succ f ih =>
    intro s a w hw hs hfree hr hy H
    refine ⟨fun h => absurd h (List.ne_nil_of_mem hr), fun j hj => ?_⟩
    by_cases hji : j = i
    · subst hji; exact opC_of_late hi hw (hRi w) hy H
    · have h1 := H.2 j (ready_mono hj hji)
      obtain ⟨hjun, oj, hoj, hall⟩ := mem_ready.1 hj
      have hun := (mem_ready.1 hr).1
      have hnot : ∀ e ∈ oj.after, Region.binds md e = true → e.on ≠ i := fun e he hb heq => by
        have h2 := hall e he hb
        rw [heq, getD_both hun] at h2
        cases h2
      have hnw : reaches md ops F j i = false := no_wait hs hun hj
      have h2 := opC_put hoj (hfree j oj hoj hji hjun hnot) (fun cs b => hsel i oi cs b hi) (fun cs b => hsel j oj cs b hoj) hy h1
      refine opC_mono (fun a' w' hw' h3 => ih (s.setIfInBounds j true) a' w' ?_ (hs.set hj) (fun k ok hk hki hku hno => hfree k ok hk hki ?_ hno) (ready_mono hr (Ne.symm hji)) h3.1 ?_) h2
      · rcases hw' with hw' | rfl
        · exact hR j hji hnw w w' hw' hw
        · exact hw
      · by_cases hjk : j = k
        · subst hjk; exact hjun
        · rw [getD_set_ne true hjk] at hku; exact hku
      · rw [Array.setIfInBounds_comm _ _ hji]
        exact h3.2

/-! ### The early part -/

/-- The early ones in whatever order, nothing else in between. -/
def headE (P : Program) (md : Region.Mode) (ops : Array Oper) (C0 : World → Prop) (T : List Nat) (M : Array Bool → Act → Prop) : Nat → Array Bool → Act → Prop
  | 0, s, a => M s a
  | f + 1, s, a => Region.ready md ops s ≠ [] ∧ ∀ i ∈ Region.ready md ops s, i ∉ T ∧ qOp P ops C0 i (headE P md ops C0 T M f (s.setIfInBounds i true)) a

theorem opC_of_qOp {R : World → World → Prop} {i : Nat} {a : Act} {w : World} {K : Act → Prop} {K' : Act → World → Prop} (hw : C0 w) (hR : ∀ w', C0 w' → R w w') (h : ∀ a w, C0 w → K a → K' a w) (hh : qOp P ops C0 i K a) : opC P ops R i K' a w := by
  unfold qOp at hh
  unfold opC
  split
  · rename_i ho; simp only [ho] at hh; exact h _ _ hw hh
  · rename_i o ho
    simp only [ho] at hh
    split
    · rename_i hwn
      simp only [hwn, if_true] at hh
      obtain ⟨v, h1, h2⟩ := hh
      have h3 := h1 w hw
      unfold Oper.quietAt at h3
      unfold opW
      generalize (execOp a.eval o).run P w = r at *
      cases r with
      | ok n w' =>
        cases n <;> simp only [Oper.quietUpon] at h3 <;> simp only [upW]
        case value u => obtain ⟨e1, e2⟩ := h3; rw [e1, e2]; exact ⟨hR _ hw, h _ _ hw h2⟩
        case skip => obtain ⟨e1, e2⟩ := h3; rw [e1, ← e2]; exact ⟨hR _ hw, h _ _ hw h2⟩
        case enter f args => obtain ⟨e1, hc⟩ := h3; rw [e1]; exact hc.mono fun e w'' ⟨he, hw''⟩ => ⟨v, he, hR _ hw'', h _ _ hw'' h2⟩
      | halt x w' => simp only [Oper.quietUpon] at h3
    · rename_i hwn; simp only [hwn] at hh; exact h _ _ hw hh

theorem anyC_of_headE {R : Nat → World → World → Prop} {g : Nat} {T : List Nat} {M : Array Bool → Act → Prop} (hR : ∀ i w w', i ∉ T → C0 w → C0 w' → R i w w') (hM : ∀ s a w, C0 w → M s a → anyC P md ops R L g s a w) :
    ∀ (f : Nat) (s : Array Bool) (a : Act) (w : World), C0 w → headE P md ops C0 T M f s a → anyC P md ops R L (f + g) s a w := by
  intro f
  induction f with
  | zero => intro s a w hw h; rw [Nat.zero_add]; exact hM _ _ _ hw h
  | succ f ih =>
    intro s a w hw h
    rw [Nat.add_right_comm]
    exact ⟨fun h0 => absurd h0 h.1, fun i hi => opC_of_qOp hw (fun w' hw' => hR i w w' (h.2 i hi).1 hw hw') (fun a' w' hw' h' => ih _ a' w' hw' h') (h.2 i hi).2⟩

theorem headE_first {T : List Nat} {i F : Nat} {oi : Oper} {v : Value} {M : Array Bool → Act → Prop} (hi : ops[i]? = some oi) (hsel : ∀ (j : Nat) (o : Oper) cs b, ops[j]? = some o → o.op ≠ .select cs b)
    (hT : ∀ t ∈ T, reaches md ops F t i = true) (hdone : ∀ s a, M s a → ∀ j ∈ Region.ready md ops s, j ∈ T) :
    ∀ (f : Nat) (s : Array Bool) (a : Act), Closed md ops s →
      (∀ j oj, ops[j]? = some oj → j ≠ i → s.getD j true = false → (∀ e ∈ oj.after, Region.binds md e = true → e.on ≠ i) → oi.apart ops oj = true) →
      i ∈ Region.ready md ops s → i ∉ T → YieldsIn P ops C0 oi v a →
      headE P md ops C0 T M f (s.setIfInBounds i true) (a.put oi.dst v) → headE P md ops C0 T M (f + 1) s a := by
  have hwait : ∀ (s : Array Bool), Closed md ops s → i ∈ Region.ready md ops s → ∀ t ∈ T, t ∉ Region.ready md ops s := by
    intro s hs hr t ht hrt
    have h1 := no_wait (f := F) hs (mem_ready.1 hr).1 hrt
    rw [hT t ht] at h1
    cases h1
  intro f
  induction f with
  | zero =>
    intro s a hs _ hr hiT hy H
    refine ⟨List.ne_nil_of_mem hr, fun j hj => ?_⟩
    have hjT : j ∉ T := fun h => hwait s hs hr j h hj
    refine ⟨hjT, ?_⟩
    by_cases hji : j = i
    · subst hji; exact hy.qOp hi H
    · exact absurd (hdone _ _ H j (ready_mono hj hji)) hjT
  | succ f ih =>
    intro s a hs hfree hr hiT hy H
    refine ⟨List.ne_nil_of_mem hr, fun j hj => ?_⟩
    have hjT : j ∉ T := fun h => hwait s hs hr j h hj
    refine ⟨hjT, ?_⟩
    by_cases hji : j = i
    · subst hji; exact hy.qOp hi H
    · have h1 := (H.2 j (ready_mono hj hji)).2
      obtain ⟨hjun, oj, hoj, hall⟩ := mem_ready.1 hj
      have hun := (mem_ready.1 hr).1
      have hnot : ∀ e ∈ oj.after, Region.binds md e = true → e.on ≠ i := fun e he hb heq => by
        have h2 := hall e he hb
        rw [heq, getD_both hun] at h2
        cases h2
      have h2 := qOp_put hoj (hfree j oj hoj hji hjun hnot) (fun cs b => hsel i oi cs b hi) (fun cs b => hsel j oj cs b hoj) hy h1
      refine qOp_mono (fun a' h3 => ih (s.setIfInBounds j true) a' (hs.set hj) (fun k ok hk hki hku hno => hfree k ok hk hki ?_ hno) (ready_mono hr (Ne.symm hji)) hiT h3.1 ?_) h2
      · by_cases hjk : j = k
        · subst hjk; exact hjun
        · rw [getD_set_ne true hjk] at hku; exact hku
      · rw [Array.setIfInBounds_comm _ _ hji]
        exact h3.2

/-! ### The tail -/

/-- The tail, an operation at a time; behind it hold the classes that it names. -/
def wpTail (P : Program) (ops : Array Oper) (c : Nat → World → Prop) (L : Act → World → Prop) : List (Oper × List Nat) → Act → World → Prop
  | [], a, w => L a w
  | (o, ks) :: r, a, w => if Region.wanted o (yielded ops a.tmps) then opW P o a w (fun a' w' => (∀ k ∈ ks, c k w') ∧ wpTail P ops c L r a' w') else wpTail P ops c L r (a.put o.dst undef) w

/-- The operations of the list, one behind the other, and nothing else. -/
def seqOf (md : Region.Mode) (ops : Array Oper) : List Nat → Array Bool → Bool
  | [], s => (Region.ready md ops s).isEmpty
  | t :: r, s => decide (Region.ready md ops s = [t]) && seqOf md ops r (s.setIfInBounds t true)

theorem onlyN_false {Q : Exit → Act → World → Prop} (e : Exit) (a : Act) (w : World) (h : e ≠ .normal) : ¬ OnlyN Q e a w := by
  cases e <;> simp_all [OnlyN]

def pick (ops : Array Oper) (l : List Nat) : List Oper := l.filterMap (ops[·]?)
def pickK {α : Type} (ops : Array Oper) (l : List (Nat × α)) : List (Oper × α) := l.filterMap fun p => (ops[p.1]?).map fun o => (o, p.2)
theorem pick_cons {t : Nat} {r : List Nat} {o : Oper} (h : ops[t]? = some o) : pick ops (t :: r) = o :: pick ops r := by simp [pick, h]
theorem pickK_cons {α : Type} {t : Nat} {k : α} {r : List (Nat × α)} {o : Oper} (h : ops[t]? = some o) : pickK ops ((t, k) :: r) = (o, k) :: pickK ops r := by simp [pickK, h]

/-- What an operation does to the world: one of the tail leaves its classes; all others keep every class. -/
def does (c : Nat → World → Prop) (T : List (Nat × List Nat)) (j : Nat) (w w' : World) : Prop :=
  match T.lookup j with
  | some ks => ∀ k ∈ ks, c k w'
  | none => ∀ k, c k w → c k w'

theorem anyC_of_seq {c : Nat → World → Prop} {R : Nat → World → World → Prop} : ∀ (T : List (Nat × List Nat)) (s : Array Bool) (a : Act) (w : World), (∀ p ∈ T, p.1 < ops.size) →
    (∀ p ∈ T, ∀ w w', (∀ k ∈ p.2, c k w') → R p.1 w w') →
    seqOf md ops (T.map (·.1)) s = true → wpTail P ops c L (pickK ops T) a w → anyC P md ops R L T.length s a w := by
  intro T
  induction T with
  | nil => intro s a w _ _ hB h; exact ⟨by simpa [seqOf] using hB, h⟩
  | cons p r ih =>
    obtain ⟨t, ks⟩ := p
    intro s a w ht hR hB h
    obtain ⟨o0, h0⟩ : ∃ o, ops[t]? = some o := ⟨_, Array.getElem?_eq_getElem (ht (t, ks) (by simp))⟩
    rw [pickK_cons h0] at h
    simp only [List.map_cons, seqOf, Bool.and_eq_true, decide_eq_true_eq] at hB
    refine ⟨fun h1 => (by rw [hB.1] at h1; cases h1), fun i hi => ?_⟩
    rw [hB.1] at hi
    have hit : i = t := by simpa using hi
    subst hit
    simp only [wpTail] at h
    unfold opC
    simp only [h0]
    split
    · rename_i hwn
      rw [if_pos hwn] at h
      exact opW_mono (fun a' w' h2 => ⟨hR (i, ks) (by simp) w w' h2.1, ih _ a' w' (fun t ht' => ht t (by simp [ht'])) (fun p hp => hR p (by simp [hp])) hB.2 h2.2⟩) h
    · rename_i hwn
      rw [if_neg hwn] at h
      exact ih _ _ _ (fun t ht' => ht t (by simp [ht'])) (fun p hp => hR p (by simp [hp])) hB.2 h

/-! ### All three -/

/-- A late operation's class. -/
def cls (c : Nat → World → Prop) : Option Nat → World → Prop
  | some k => c k
  | none => fun _ => True

def wpLates (P : Program) (ops : Array Oper) (c : Nat → World → Prop) (Q : Act → Prop) : List (Oper × Option Nat) → Act → Prop
  | [], a => Q a
  | (o, k) :: r, a => wpLate P ops (cls c k) (wpLates P ops c Q r) [o] a

theorem lates_nil {c : Nat → World → Prop} {Q : Act → Prop} {a : Act} (h : Q a) : wpLates P ops c Q [] a := h
theorem lates_none {c : Nat → World → Prop} {Q : Act → Prop} {a : Act} {o : Oper} {r : List (Oper × Option Nat)}
    (h : ∀ K : Act → Prop, (∀ a, wpLates P ops c Q r a → K a) → if Region.wanted o (yielded ops a.tmps) then ∃ v, (∀ w, True → lateUpon w v ((execOp a.eval o).run P w)) ∧ K (a.put o.dst v) else K (a.put o.dst undef)) :
    wpLates P ops c Q ((o, none) :: r) a := h _ (fun _ h => h)
theorem lates_val {c : Nat → World → Prop} {Q : Act → Prop} {a : Act} {o : Oper} {k : Nat} {r : List (Oper × Option Nat)} (v : Value) (hw : Region.wanted o (yielded ops a.tmps) = true)
    (h : ∀ w, c k w → lateUpon w v ((execOp a.eval o).run P w)) (hn : ∀ K : Act → Prop, (∀ a, wpLates P ops c Q r a → K a) → K (a.put o.dst v)) : wpLates P ops c Q ((o, some k) :: r) a := by
  simp only [wpLates, wpLate, hw, if_true]
  exact ⟨v, h, hn _ (fun _ h => h)⟩
theorem tail_nil {c : Nat → World → Prop} {a : Act} {w : World} (h : L a w) : wpTail P ops c L [] a w := h
theorem tail_step {c : Nat → World → Prop} {a : Act} {w : World} {o : Oper} {ks : List Nat} {r : List (Oper × List Nat)}
    (h : ∀ K : Act → World → Prop, (∀ a w, (∀ k ∈ ks, c k w) → wpTail P ops c L r a w → K a w) → wpList P ops (OnlyN fun _ a' w' => K a' w') [o] a w) (hg : o.guard = none := by rfl) : wpTail P ops c L ((o, ks) :: r) a w := by
  have hw : Region.wanted o (yielded ops a.tmps) = true := by simp [Region.wanted, hg]
  have h1 := h (fun a' w' => (∀ k ∈ ks, c k w') ∧ wpTail P ops c L r a' w') (fun _ _ h1 h2 => ⟨h1, h2⟩)
  simp only [wpList, if_pos hw] at h1
  simp only [wpTail, if_pos hw]
  rcases h1 with h1 | ⟨_, a0, w0, h1⟩
  · exact opW_of_wp onlyN_false h1
  · exact (onlyN_false _ _ _ (by simp) h1).elim
theorem tail_stepIn {r : Option Nat} {n : Nat} {c : Nat → World → Prop} {a : Act} {w : World} {o : Oper} {ks : List Nat} {rest : List (Oper × List Nat)}
    (h : ∀ K : Act → World → Prop, (∀ a w, (∀ k ∈ ks, c k w) → wpTail P ops c L rest a w → K a w) → wpListIn (Open r) n P ops (OnlyN fun _ a' w' => K a' w') [o] a w) (hg : o.guard = none := by rfl) (hd : r = none ∨ ∀ c, o.op ≠ .defer c := by first | exact .inl rfl | exact .inr (fun _ h => by cases h)) :
    wpTail P ops c L ((o, ks) :: rest) a w := by
  have hw : Region.wanted o (yielded ops a.tmps) = true := by simp [Region.wanted, hg]
  have h1 := h (fun a' w' => (∀ k ∈ ks, c k w') ∧ wpTail P ops c L rest a' w') (fun _ _ h1 h2 => ⟨h1, h2⟩)
  simp only [wpListIn, if_pos hw] at h1
  simp only [wpTail, if_pos hw]
  exact opW_of_wpIn hd onlyN_false h1
theorem keep0 {p : Nat → Prop} : ∀ k ∈ ([] : List Nat), p k := by simp
theorem keep1 {p : Nat → Prop} {i : Nat} (h : p i) : ∀ k ∈ [i], p k := by simpa using h
theorem keep2 {p : Nat → Prop} {i j : Nat} (h : p i) (h' : p j) : ∀ k ∈ [i, j], p k := by simp; exact ⟨h, h'⟩

/-- The check: the late ones in their order, each ready and free, its class kept by all of the tail that does not wait for it; then the early ones, each ready and free, the tail waiting for each; then the tail. -/
def earlyB (md : Region.Mode) (ops : Array Oper) (T : List (Nat × List Nat)) : List Nat → Array Bool → Bool
  | [], s => seqOf md ops (T.map (·.1)) s
  | e :: r, s => (Region.ready md ops s).contains e && Region.free md ops s e && !(T.map (·.1)).contains e && (T.map (·.1)).all (fun t => reaches md ops ops.size t e) && earlyB md ops T r (s.setIfInBounds e true)

def ordB (md : Region.Mode) (ops : Array Oper) (T : List (Nat × List Nat)) (E : List Nat) : List (Nat × Option Nat) → Array Bool → Bool
  | [], s => earlyB md ops T E s
  | l :: r, s => (Region.ready md ops s).contains l.1 && Region.free md ops s l.1 && (T.lookup l.1).isNone &&
      (match l.2 with | none => true | some k => T.all fun p => reaches md ops ops.size p.1 l.1 || p.2.contains k) && ordB md ops T E r (s.setIfInBounds l.1 true)

theorem seqOf_ready {T : List Nat} {s : Array Bool} (h : seqOf md ops T s = true) : ∀ j ∈ Region.ready md ops s, j ∈ T := by
  cases T with
  | nil => intro j hj; simp only [seqOf, List.isEmpty_iff] at h; rw [h] at hj; cases hj
  | cons t r =>
    intro j hj
    simp only [seqOf, Bool.and_eq_true, decide_eq_true_eq] at h
    rw [h.1] at hj
    simp at hj
    simp [hj]

theorem headE_of_walk {T : List (Nat × List Nat)} {Lq : Act → Prop} (hsel : Region.noSelect ops = true) : ∀ (E : List Nat) (s : Array Bool) (a : Act), Closed md ops s → (∀ e ∈ E, e < ops.size) → earlyB md ops T E s = true →
    wpQuiet P ops C0 Lq (pick ops E) a → headE P md ops C0 (T.map (·.1)) (fun s' a' => seqOf md ops (T.map (·.1)) s' = true ∧ Lq a') E.length s a := by
  intro E
  induction E with
  | nil => intro s a _ _ hB h; exact ⟨by simpa [earlyB] using hB, h⟩
  | cons e r ih =>
    intro s a hs hE hB h
    obtain ⟨o0, h0⟩ : ∃ o, ops[e]? = some o := ⟨_, Array.getElem?_eq_getElem (hE e (by simp))⟩
    rw [pick_cons h0] at h
    simp only [earlyB, Bool.and_eq_true] at hB
    obtain ⟨⟨⟨⟨hr, hf⟩, hnT⟩, hre⟩, hB'⟩ := hB
    have hr' : e ∈ Region.ready md ops s := by simpa using hr
    have hst : qOp P ops C0 e (wpQuiet P ops C0 Lq (pick ops r)) a := by unfold qOp; simp only [h0]; exact h
    obtain ⟨v, hy, hK⟩ := yieldsIn_of_qOp h0 hst
    exact headE_first h0 (Region.noSelect_spec hsel) (fun t ht => List.all_eq_true.1 hre t ht) (fun s' a' hM => seqOf_ready hM.1) r.length s a hs (Region.free_spec h0 hf) hr'
      (by simpa using hnT) hy (ih _ _ (hs.set hr') (fun e' he' => hE e' (by simp [he'])) hB' hK)

theorem lookup_none_of_not_mem {α : Type} : ∀ (T : List (Nat × α)) (j : Nat), j ∉ T.map (·.1) → T.lookup j = none := by
  intro T
  induction T with
  | nil => intro j _; rfl
  | cons p r ih =>
    obtain ⟨t, k⟩ := p
    intro j hj
    simp only [List.map_cons, List.mem_cons, not_or] at hj
    rw [List.lookup_cons]
    have : (j == t) = false := by simpa using hj.1
    rw [this]
    exact ih j hj.2

theorem anyC_of_walk {c : Nat → World → Prop} {T : List (Nat × List Nat)} {E : List Nat} (hsel : Region.noSelect ops = true) (hC : ∀ k w, C0 w → c k w) (hE : ∀ e ∈ E, e < ops.size) (hT : ∀ p ∈ T, p.1 < ops.size) (hu : ∀ p ∈ T, T.lookup p.1 = some p.2) :
    ∀ (l : List (Nat × Option Nat)) (s : Array Bool) (a : Act) (w : World), C0 w → Closed md ops s → (∀ e ∈ l, e.1 < ops.size) → ordB md ops T E l s = true →
    wpLates P ops c (wpQuiet P ops C0 (fun a' => ∀ w', C0 w' → wpTail P ops c L (pickK ops T) a' w') (pick ops E)) (pickK ops l) a →
    anyC P md ops (does c T) L (l.length + (E.length + T.length)) s a w := by
  intro l
  induction l with
  | nil =>
    intro s a w hw hs _ hB h
    rw [List.length_nil, Nat.zero_add]
    refine anyC_of_headE (T := T.map (·.1)) (fun i w w' hi _ hw' => ?_) (fun s' a' w' hw' hM => anyC_of_seq T s' a' w' hT (fun p hp w w' h' => ?_) hM.1 (hM.2 w' hw')) E.length s a w hw (headE_of_walk hsel E s a hs hE (by simpa [ordB] using hB) h)
    · unfold does
      rw [lookup_none_of_not_mem T i hi]
      exact fun k _ => hC k w' hw'
    · unfold does
      rw [hu p hp]
      exact h'
  | cons p r ih =>
    obtain ⟨i, k⟩ := p
    intro s a w hw hs hl hB h
    obtain ⟨o0, h0⟩ : ∃ o, ops[i]? = some o := ⟨_, Array.getElem?_eq_getElem (hl (i, k) (by simp))⟩
    rw [pickK_cons h0] at h
    simp only [ordB, Bool.and_eq_true] at hB
    obtain ⟨⟨⟨⟨hr, hf⟩, hnone⟩, hk⟩, hB'⟩ := hB
    have hr' : i ∈ Region.ready md ops s := by simpa using hr
    have hlk : T.lookup i = none := by simpa using hnone
    have hcw : cls c k w := by cases k with | none => trivial | some k => exact hC k w hw
    have hRi : ∀ w, does c T i w w := fun w => by unfold does; rw [hlk]; exact fun _ h => h
    have hR : ∀ j, j ≠ i → reaches md ops ops.size j i = false → ∀ w w', does c T j w w' → cls c k w → cls c k w' := by
      intro j _ hnr w w' hd hc
      cases k with
      | none => trivial
      | some k =>
        unfold does at hd
        split at hd
        · rename_i ks hks
          have hm : (j, ks) ∈ T := by
            clear hu hT hnone hlk hRi hk hB' ih h
            induction T with
            | nil => simp at hks
            | cons q r ih =>
              obtain ⟨t, k'⟩ := q
              rw [List.lookup_cons] at hks
              split at hks
              · rename_i hjt
                have : j = t := by simpa using hjt
                subst this
                simp only [Option.some.injEq] at hks
                subst hks
                simp
              · exact List.mem_cons_of_mem _ (ih hks)
          have h1 := List.all_eq_true.1 hk (j, ks) hm
          simp only [hnr, Bool.false_or] at h1
          exact hd k (by simpa using h1)
        · exact hd k hc
    rw [List.length_cons, Nat.add_right_comm]
    simp only [wpLates, wpLate] at h
    split at h
    · rename_i hwn
      obtain ⟨v, h1, h2⟩ := h
      exact anyC_first h0 (Region.noSelect_spec hsel) hR hRi _ s a w hcw hs (Region.free_spec h0 hf) hr' (.inl ⟨hwn, h1⟩) (ih _ _ w hw (hs.set hr') (fun e he => hl e (by simp [he])) hB' h2)
    · rename_i hwn
      exact anyC_first h0 (Region.noSelect_spec hsel) hR hRi _ s a w hcw hs (Region.free_spec h0 hf) hr' (.inr ⟨by simpa using hwn, rfl⟩) (ih _ _ w hw (hs.set hr') (fun e he => hl e (by simp [he])) hB' h)

def regionB (md : Region.Mode) (ops : Array Oper) (l : List (Nat × Option Nat)) (E : List Nat) (T : List (Nat × List Nat)) : Bool :=
  Region.noSelect ops && (l.map (·.1) ++ E ++ T.map (·.1)).all (· < ops.size) && T.all (fun p => T.lookup p.1 == some p.2) && decide (l.length + (E.length + T.length) = ops.size) && ordB md ops T E l (Array.replicate ops.size false)

end

/-- The region's law, in an activation of a function or in a round. -/
theorem regionIn_ordC {P : Program} {r : Option Nat} {n : Nat} {id : Nat} {Q : Exit → Act → World → Prop} {a : Act} {w : World} {ops : List Oper} (l : List (Nat × Option Nat)) (E : List Nat) (T : List (Nat × List Nat)) (c : Nat → World → Prop) (C0 : World → Prop)
    (hm : P.follows .mixedOrders = true) (hB : regionB .any ops.toArray l E T = true) (hd : r = none ∨ noDefer ops.toArray = true) (hC : ∀ k w, C0 w → c k w) (h0 : C0 { w with drawn := w.drawn + 1 })
    (h : wpLates P ops.toArray c (wpQuiet P ops.toArray C0 (fun a' => ∀ w', C0 w' → wpTail P ops.toArray c (fun a w => Q .normal a w) (pickK ops.toArray T) a' w') (pick ops.toArray E)) (pickK ops.toArray l) a) :
    (Code.region id ops.toArray true).wpIn (Open r) n P Q a w := by
  simp only [regionB, Bool.and_eq_true, decide_eq_true_eq, List.all_eq_true] at hB
  obtain ⟨⟨⟨⟨hsel, hlt⟩, hu⟩, hlen⟩, hord⟩ := hB
  refine wpIn_region_any hm (any_of_anyC (R := does c T) (L := fun a w => Q .normal a w) hd (fun _ _ h => h) _ _ _ _ ?_)
  rw [← hlen]
  refine anyC_of_walk (c := c) hsel hC (fun e he => hlt e (by simp [he])) (fun p hp => hlt p.1 (by simp; exact .inr (.inr ⟨p.2, hp⟩))) (fun p hp => by simpa using hu p hp) l _ a _ h0 ?_
    (fun p hp => hlt p.1 (by simp; exact .inl ⟨p.2, hp⟩)) (by rw [← hlen] at hord; exact hord) h
  intro j o _ hl
  rw [getD_replicate_false] at hl
  cases hl

/-- The same, the early ones in the world behind some draws. -/
theorem region_ord {P : Program} {id : Nat} {Q : Exit → Act → World → Prop} {a : Act} {w : World} {ops : List Oper} (l : List (Nat × Option Nat)) (E : List Nat) (T : List (Nat × List Nat)) (c : Nat → World → Prop)
    (hm : P.follows .mixedOrders = true) (hB : regionB .any ops.toArray l E T = true) (hC : ∀ k n, c k (w.drewN n))
    (h : wpLates P ops.toArray c (wpQuiet P ops.toArray (fun w' => ∃ n, w' = w.drewN n) (fun a' => ∀ w', (∃ n, w' = w.drewN n) → wpTail P ops.toArray c (fun a w => Q .normal a w) (pickK ops.toArray T) a' w') (pick ops.toArray E)) (pickK ops.toArray l) a) :
    (Code.region id ops.toArray true).wp P Q a w :=
  (wpIn_wide (n := 0)).1 (regionIn_ordC (r := none) l E T c (fun w' => ∃ n, w' = w.drewN n) hm hB (.inl rfl) (fun k _ ⟨n, hn⟩ => hn ▸ hC k n) ⟨1, rfl⟩ h)

theorem regionIn_ord {P : Program} {r : Option Nat} {n : Nat} {id : Nat} {Q : Exit → Act → World → Prop} {a : Act} {w : World} {ops : List Oper} (l : List (Nat × Option Nat)) (E : List Nat) (T : List (Nat × List Nat)) (c : Nat → World → Prop)
    (hm : P.follows .mixedOrders = true) (hB : regionB .any ops.toArray l E T = true) (hd : noDefer ops.toArray = true) (hC : ∀ k n, c k (w.drewN n))
    (h : wpLates P ops.toArray c (wpQuiet P ops.toArray (fun w' => ∃ n, w' = w.drewN n) (fun a' => ∀ w', (∃ n, w' = w.drewN n) → wpTail P ops.toArray c (fun a w => Q .normal a w) (pickK ops.toArray T) a' w') (pick ops.toArray E)) (pickK ops.toArray l) a) :
    (Code.region id ops.toArray true).wpIn (Open r) n P Q a w :=
  regionIn_ordC l E T c (fun w' => ∃ n, w' = w.drewN n) hm hB (.inr hd) (fun k _ ⟨n, hn⟩ => hn ▸ hC k n) ⟨1, rfl⟩ h
end Go.Proofs.Ytajipgcnpemifaa
