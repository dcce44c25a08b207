/- Regions that draw their order, walked once in the order of the text, where what an operation yields may hang on the world that it meets (a NaN that is drawn, a new block). Conditions: none. -/
import Derived.Test.YtflmfjimemhooaaEy
namespace Go.Proofs.Ytflmfjimemhooaa
open Go.RowKit
open Fl

section
variable {P : Program} {ops : Array Oper} {md : Region.Mode} {C : World → Prop}

/-- A frame that keeps what it is handed, and ends. -/
def endFrame : Frame := { fn := 0, tmps := #[], todo := [.extern "" #[], .code (.refuse "")], defers := [], mode := .run, kind := .normal }
theorem endFrame_step (v : Value) (w : World) : ∃ o w', step P (lone (endFrame.finish v) [] w) = .ended o w' :=
  ⟨_, _, step_lone_ended (by simp only [endFrame, Frame.finish, stepG, stepG.exec]; rfl)⟩
theorem steps_ended {m m1 m2 : Machine} {o1 o2 : Outcome} {w1 w2 : World} (h1 : Steps P m m1) (e1 : step P m1 = .ended o1 w1) (h2 : Steps P m m2) (e2 : step P m2 = .ended o2 w2) : m1 = m2 := by
  obtain ⟨n1, h1⟩ := h1
  obtain ⟨n2, h2⟩ := h2
  rcases Nat.lt_trichotomy n1 n2 with h | h | h
  · obtain ⟨k, rfl⟩ : ∃ k, n2 = n1 + (k + 1) := ⟨n2 - n1 - 1, by omega⟩
    rw [runN_add, h1] at h2
    simp [runN, e1] at h2
  · subst h
    rw [h1] at h2
    injection h2
  · obtain ⟨k, rfl⟩ : ∃ k, n1 = n2 + (k + 1) := ⟨n1 - n2 - 1, by omega⟩
    rw [runN_add, h2] at h1
    simp [runN, e2] at h1
/-- A call returns one value in one world. -/
theorem calls_one {f : FuncId} {args : Array Value} {w : World} {v1 v2 : Value} {R1 R2 : World → Prop} (h1 : Calls P f args w fun e w' => e = .returned v1 ∧ R1 w') (h2 : Calls P f args w fun e w' => e = .returned v2 ∧ R2 w') : v1 = v2 := by
  obtain ⟨e1, w1, fr1, ⟨rfl, -⟩, s1, -, l1⟩ := h1 [endFrame]
  obtain ⟨e2, w2, fr2, ⟨rfl, -⟩, s2, -, l2⟩ := h2 [endFrame]
  obtain ⟨o1, x1, t1⟩ := endFrame_step (P := P) v1 w1
  obtain ⟨o2, x2, t2⟩ := endFrame_step (P := P) v2 w2
  have := steps_ended (Steps.trans s1 (Steps.one (step_leave_returned l1))) t1 (Steps.trans s2 (Steps.one (step_leave_returned l2))) t2
  simp only [lone, endFrame, Frame.finish, Machine.mk.injEq, Array.mk.injEq, List.cons.injEq, Goroutine.mk.injEq, Frame.mk.injEq] at this
  simpa using this.2.1

def Oper.withUpon (P : Program) (C : World → Prop) (w : World) (v : Value) : Result Next → Prop
  | .ok (.value u) w' => C w' ∧ u = v
  | .ok .skip w' => C w' ∧ v = undef
  | .ok (.enter f args) w' => w' = w ∧ Calls P f args w (fun e w'' => e = .returned v ∧ C w'')
  | _ => False
def Oper.withAt (P : Program) (o : Oper) (a : Act) (C : World → Prop) (w : World) (v : Value) : Prop := Oper.withUpon P C w v ((execOp a.eval o).run P w)
/-- In every world of the class some value, and a world of the class. -/
def Oper.withQ (P : Program) (o : Oper) (a : Act) (C : World → Prop) (next : Act → Prop) : Prop := ∀ w, C w → ∃ v, Oper.withAt P o a C w v ∧ next (a.put o.dst v)

theorem withAt_one {o : Oper} {a : Act} {w : World} {v1 v2 : Value} (h1 : Oper.withAt P o a C w v1) (h2 : Oper.withAt P o a C w v2) : v1 = v2 := by
  unfold Oper.withAt at *
  generalize (execOp a.eval o).run P w = r at *
  cases r with
  | ok n w' =>
    cases n <;> simp only [Oper.withUpon] at h1 h2
    case value u => exact h1.2.symm.trans h2.2
    case skip => exact h1.2.trans h2.2.symm
    case enter f args => exact calls_one h1.2 h2.2
  | halt x w' => simp only [Oper.withUpon] at h1
theorem withAt_of_quietAt {o : Oper} {a : Act} {w : World} {v : Value} (hw : C w) (h : o.quietAt P a C w v) : Oper.withAt P o a C w v := by
  unfold Oper.withAt Oper.quietAt at *
  generalize (execOp a.eval o).run P w = r at *
  cases r with
  | ok n w' =>
    cases n <;> simp only [Oper.quietUpon] at h
    case value u => exact ⟨h.1 ▸ hw, h.2⟩
    case skip => exact ⟨h.1 ▸ hw, h.2⟩
    case enter f args => exact h
  | halt x w' => simp only [Oper.quietUpon] at h
theorem withQ_of_quiet {o : Oper} {a : Act} {K : Act → Prop} (h : o.quiet P a C K) : Oper.withQ P o a C K := fun w hw =>
  let ⟨v, h1, h2⟩ := h
  ⟨v, withAt_of_quietAt hw (h1 w hw), h2⟩
theorem withQ_mono {o : Oper} {a : Act} {K K' : Act → Prop} (h : ∀ a, K a → K' a) (hh : Oper.withQ P o a C K) : Oper.withQ P o a C K' := fun w hw =>
  let ⟨v, h1, h2⟩ := hh w hw
  ⟨v, h1, h _ h2⟩

/-- The lexical walk. -/
def wpWith (P : Program) (ops : Array Oper) (C : World → Prop) (Q : Act → Prop) : List Oper → Act → Prop
  | [], a => Q a
  | o :: rest, a => if Region.wanted o (yielded ops a.tmps) then Oper.withQ P o a C (wpWith P ops C Q rest) else wpWith P ops C Q rest (a.put o.dst undef)

theorem wpWith_nil {Q : Act → Prop} {a : Act} (h : Q a) : wpWith P ops C Q [] a := h
/-- An operation that yields one value in all worlds: by the elder walk. -/
theorem wpWith_det {Q : Act → Prop} {a : Act} {o : Oper} {rest : List Oper} (h : wpQuiet P ops C (fun a' => wpWith P ops C Q rest a') [o] a) : wpWith P ops C Q (o :: rest) a := by
  unfold wpWith
  unfold wpQuiet at h
  split
  · rename_i hw
    rw [if_pos hw] at h
    exact withQ_of_quiet (Oper.quiet_mono (fun a h => h) h)
  · rename_i hw
    rw [if_neg hw] at h
    exact h
/-- An operation whose value hangs on the world. -/
theorem wpWith_dep {Q : Act → Prop} {a : Act} {o : Oper} {rest : List Oper} (hw : Region.wanted o (yielded ops a.tmps) = true)
    (h : ∀ K : Act → Prop, (∀ a, wpWith P ops C Q rest a → K a) → ∀ w, C w → ∃ v, Oper.withAt P o a C w v ∧ K (a.put o.dst v)) : wpWith P ops C Q (o :: rest) a := by
  unfold wpWith
  rw [if_pos hw]
  exact h _ (fun _ h => h)

def wOp (P : Program) (ops : Array Oper) (C : World → Prop) (i : Nat) (K : Act → Prop) (a : Act) : Prop :=
  match ops[i]? with
  | none => K a
  | some o => if Region.wanted o (yielded ops a.tmps) then Oper.withQ P o a C K else K (a.put o.dst undef)
theorem wOp_mono {i : Nat} {a : Act} {K K' : Act → Prop} (h : ∀ a, K a → K' a) (hh : wOp P ops C i K a) : wOp P ops C i K' a := by
  unfold wOp at *
  split
  · exact h _ (by simpa [*] using hh)
  · rename_i o ho
    simp only [ho] at hh
    split
    · rename_i hw; simp only [hw, if_true] at hh; exact withQ_mono h hh
    · rename_i hw; simp only [hw] at hh; exact h _ hh
theorem wp_of_withQ {o : Oper} {a : Act} {K : Act → Prop} {K' : Act → World → Prop} {Q' : Exit → Act → World → Prop} {w : World} (hw : C w) (h : ∀ a w', C w' → K a → K' a w') (hh : Oper.withQ P o a C K) : o.wp P a w K' Q' := by
  obtain ⟨v, h3, h2⟩ := hh w hw
  unfold Oper.withAt at h3
  unfold Oper.wp
  generalize (execOp a.eval o).run P w = r at *
  cases r with
  | ok n w' =>
    cases n <;> simp only [Oper.withUpon] at h3 <;> simp only [Oper.upon]
    case value u => obtain ⟨e1, rfl⟩ := h3; exact h _ _ e1 h2
    case skip => obtain ⟨e1, rfl⟩ := h3; exact h _ _ e1 h2
    case enter f args =>
      obtain ⟨rfl, hc⟩ := h3
      exact hc.mono fun e w'' ⟨he, hw''⟩ => by subst he; exact h _ _ hw'' h2
  | halt x w' => simp only [Oper.withUpon] at h3
theorem wpOp_of_wOp {i : Nat} {a : Act} {K : Act → Prop} {K' : Act → World → Prop} {Q' : Exit → Act → World → Prop} {w : World} (hC : C w) (h : ∀ a w', C w' → K a → K' a w') (hh : wOp P ops C i K a) : wpOp P ops Q' i K' a w := by
  unfold wOp at hh
  unfold wpOp
  split
  · rename_i ho; simp only [ho] at hh; exact h _ _ hC hh
  · rename_i o ho
    simp only [ho] at hh
    split
    · rename_i hw; simp only [hw, if_true] at hh; exact .inl (wp_of_withQ hC h hh)
    · rename_i hw; simp only [hw] at hh; exact h _ _ hC hh

def wpAnyW (P : Program) (md : Region.Mode) (ops : Array Oper) (C : World → Prop) (Q : Act → Prop) : Nat → Array Bool → Act → Prop
  | 0, listed, a => Region.ready md ops listed = [] ∧ Q a
  | fuel + 1, listed, a =>
    (Region.ready md ops listed = [] → Q a) ∧
    ∀ i ∈ Region.ready md ops listed, wOp P ops C i (wpAnyW P md ops C Q fuel (listed.setIfInBounds i true)) a
theorem wpAny_of_with {Q : Act → Prop} {Q' : Exit → Act → World → Prop} (hQ : ∀ a w, C w → Q a → Q' .normal a w) : ∀ (fuel : Nat) (listed : Array Bool) (a : Act) (w : World), C w →
    wpAnyW P md ops C Q fuel listed a → wpAny P md ops Q' fuel listed a w
  | 0, _, _, _, hw, h => ⟨h.1, hQ _ _ hw h.2⟩
  | fuel + 1, _, _, _, hw, h => ⟨fun h0 => hQ _ _ hw (h.1 h0), fun i hi => wpOp_of_wOp hw (fun a' w' hw' => wpAny_of_with hQ fuel _ a' w' hw') (h.2 i hi)⟩

/-- What an operation may leave in its temporary in this state. -/
def WithV (P : Program) (ops : Array Oper) (C : World → Prop) (o : Oper) (a : Act) (w : World) (v : Value) : Prop :=
  if Region.wanted o (yielded ops a.tmps) = true then Oper.withAt P o a C w v else v = undef
theorem withV_one {o : Oper} {a : Act} {w : World} {v1 v2 : Value} (h1 : WithV P ops C o a w v1) (h2 : WithV P ops C o a w v2) : v1 = v2 := by
  unfold WithV at *
  split at h1
  · rw [if_pos (by assumption)] at h2; exact withAt_one h1 h2
  · rw [if_neg (by assumption)] at h2; exact h1.trans h2.symm
theorem wOp_iff {i : Nat} {o : Oper} {a : Act} {K : Act → Prop} (hC : ∃ w, C w) (hi : ops[i]? = some o) : wOp P ops C i K a ↔ ∀ w, C w → ∃ v, WithV P ops C o a w v ∧ K (a.put o.dst v) := by
  unfold wOp WithV
  simp only [hi]
  by_cases hw : Region.wanted o (yielded ops a.tmps) = true
  · simp only [hw, if_true]; exact Iff.rfl
  · simp only [hw]
    constructor
    · intro h w _; exact ⟨undef, rfl, h⟩
    · intro h
      obtain ⟨w, hc⟩ := hC
      obtain ⟨v, e, h⟩ := h w hc
      have e : v = undef := e
      subst e
      exact h
theorem withV_put {o : Oper} (hs : ∀ cs b, o.op ≠ .select cs b) {a : Act} {dst : Option Tmp} {v u : Value} {w : World} (h : ∀ d, dst = some d → d ∉ o.looksAt ops) : WithV P ops C o (a.put dst v) w u ↔ WithV P ops C o a w u := by
  unfold WithV Oper.withAt
  rw [wanted_put o a dst v h, execOp_put o hs a dst v h]

theorem wpAnyW_first {Q : Act → Prop} {i : Nat} {oi : Oper} (hC : ∃ w, C w) (hi : ops[i]? = some oi) (hsel : ∀ (j : Nat) (o : Oper) cs b, ops[j]? = some o → o.op ≠ .select cs b) :
    ∀ (fuel : Nat) (listed : Array Bool) (a : Act),
      (∀ j oj, ops[j]? = some oj → j ≠ i → listed.getD j true = false → (∀ e ∈ oj.after, Region.binds md e = true → e.on ≠ i) → oi.apart ops oj = true) →
      i ∈ Region.ready md ops listed → (∀ w, C w → ∃ v, WithV P ops C oi a w v) →
      (∀ w v, C w → WithV P ops C oi a w v → wpAnyW P md ops C Q fuel (listed.setIfInBounds i true) (a.put oi.dst v)) → wpAnyW P md ops C Q (fuel + 1) listed a := by
  intro fuel
  induction fuel with
  | zero =>
    intro listed a _ hr hex H
    refine ⟨fun h => (by rw [h] at hr; cases hr), fun j hj => ?_⟩
    by_cases hji : j = i
    · subst hji
      exact (wOp_iff hC hi).2 fun w hw => let ⟨v, hv⟩ := hex w hw; ⟨v, hv, H w v hw hv⟩
    · have := ready_mono hj hji
      obtain ⟨w, hw⟩ := hC
      obtain ⟨v, hv⟩ := hex w hw
      rw [(H w v hw hv).1] at this
      cases this
  | succ fuel ih =>
    intro listed a hfree hr hex H
    refine ⟨fun h => (by rw [h] at hr; cases hr), fun j hj => ?_⟩
    by_cases hji : j = i
    · subst hji
      exact (wOp_iff hC hi).2 fun w hw => let ⟨v, hv⟩ := hex w hw; ⟨v, hv, H w v hw hv⟩
    · obtain ⟨hjun, oj, hoj, hall⟩ := mem_ready.1 hj
      have hnot : ∀ e ∈ oj.after, Region.binds md e = true → e.on ≠ i := fun e he hb heq => by
        have h1 := hall e he hb
        have h0 := (mem_ready.1 hr).1
        rw [heq] at h1
        rcases Nat.lt_or_ge i listed.size with h' | h'
        · simp [h'] at h0 h1; rw [h0] at h1; cases h1
        · simp [Array.getElem?_eq_none h'] at h1
      obtain ⟨p1, p2, p3⟩ := Oper.apart_spec (hfree j oj hoj hji hjun hnot)
      have hsi := fun cs b => hsel i oi cs b hi
      have hsj := fun cs b => hsel j oj cs b hoj
      refine (wOp_iff hC hoj).2 fun w hw => ?_
      obtain ⟨v0, hv0⟩ := hex w hw
      obtain ⟨u, hu, -⟩ := (wOp_iff hC hoj).1 ((H w v0 hw hv0).2 j (ready_mono hj hji)) w hw
      have hu := (withV_put hsj p1).1 hu
      have hfree' : ∀ k ok, ops[k]? = some ok → k ≠ i → (listed.setIfInBounds j true).getD k true = false →
          (∀ e ∈ ok.after, Region.binds md e = true → e.on ≠ i) → oi.apart ops ok = true := fun k ok hk hki hun hno => by
        refine hfree k ok hk hki ?_ hno
        by_cases hjk : j = k
        · subst hjk; exact hjun
        · rw [getD_set_ne true hjk] at hun; exact hun
      refine ⟨u, hu, ih (listed.setIfInBounds j true) (a.put oj.dst u) hfree' (ready_mono hr (Ne.symm hji)) (fun w' hw' => let ⟨v, hv⟩ := hex w' hw'; ⟨v, (withV_put hsi p3).2 hv⟩) (fun w' v hw' hv => ?_)⟩
      obtain ⟨u', hu', hK⟩ := (wOp_iff hC hoj).1 ((H w' v hw' ((withV_put hsi p3).1 hv)).2 j (ready_mono hj hji)) w hw
      obtain rfl := withV_one hu ((withV_put hsj p1).1 hu')
      rw [Array.setIfInBounds_comm _ _ hji, ← Act.put_comm a v u p2]
      exact hK

theorem wpAnyW_lex {Q : Act → Prop} (hC : ∃ w, C w) (hs : Region.noSelect ops = true) : ∀ (l : List Oper) (k : Nat) (listed : Array Bool) (a : Act), (∀ j, l[j]? = ops[k + j]?) →
    Region.lexFrom md ops l.length k listed = true → wpWith P ops C Q l a → wpAnyW P md ops C Q l.length listed a
  | [], _, _, _, _, hB, h => ⟨by simpa [Region.lexFrom] using hB, h⟩
  | o :: l, k, listed, a, hl, hB, h => by
    have h0 : ops[k]? = some o := by simpa using (hl 0).symm
    simp only [List.length_cons, Region.lexFrom, Bool.and_eq_true] at hB
    obtain ⟨⟨hr, hf⟩, hB'⟩ := hB
    have hst : wOp P ops C k (wpWith P ops C Q l) a := by unfold wOp; simp only [h0]; exact h
    have hst := (wOp_iff hC h0).1 hst
    refine wpAnyW_first hC h0 (Region.noSelect_spec hs) l.length listed a (Region.free_spec h0 hf) (by simpa using hr) (fun w hw => let ⟨v, hv, _⟩ := hst w hw; ⟨v, hv⟩) (fun w v hw hv => ?_)
    obtain ⟨v', hv', hK⟩ := hst w hw
    obtain rfl := withV_one hv hv'
    exact wpAnyW_lex hC hs l (k + 1) _ _ (fun j => by have := hl (j + 1); simpa [Nat.add_assoc, Nat.add_comm 1 j] using this) hB' hK

/-- One walk in the order of the text serves every order. -/
theorem region_with {id : Nat} {Q : Exit → Act → World → Prop} {a : Act} {w : World} {l : List Oper} (hm : P.follows .mixedOrders = true) (hB : Region.lexB .any l.toArray = true)
    (h : wpWith P l.toArray (fun w' => ∃ x : World, w' = ext w x) (fun a' => ∀ w', (∃ x : World, w' = ext w x) → Q .normal a' w') l a) : (Code.region id l.toArray true).wp P Q a w := by
  have hC : ∃ x : World, { w with drawn := w.drawn + 1 } = ext w x := ⟨w.drew, (ext_of (w := w) (x := w.drew) ((Kept.refl _ _).drew 1)).symm⟩
  simp only [Region.lexB, Bool.and_eq_true] at hB
  refine wp_region_any hm (wpAny_of_with (C := fun w' => ∃ x : World, w' = ext w x) (Q := fun a' => ∀ w', (∃ x : World, w' = ext w x) → Q .normal a' w') (fun _ w' hw' h => h w' hw') _ _ _ _ hC ?_)
  have := wpAnyW_lex (C := fun w' => ∃ x : World, w' = ext w x) (md := .any) ⟨_, hC⟩ hB.1 l 0 (Array.replicate l.toArray.size false) a (by simp) (by simpa using hB.2) h
  simpa using this

open Qt
def anyHeadW (P : Program) (md : Region.Mode) (ops : Array Oper) (C : World → Prop) (n : Nat) (L : Array Bool → Act → Prop) : Nat → Array Bool → Act → Prop
  | 0, listed, a => L listed a
  | f + 1, listed, a => Region.ready md ops listed ≠ [] ∧ ∀ i ∈ Region.ready md ops listed, i < n ∧ wOp P ops C i (anyHeadW P md ops C n L f (listed.setIfInBounds i true)) a
theorem any_of_headW {n g : Nat} {L : Array Bool → Act → Prop} {Q' : Exit → Act → World → Prop} (hL : ∀ listed a w, C w → L listed a → wpAny P md ops Q' g listed a w) (f : Nat) :
    ∀ (listed : Array Bool) (a : Act) (w : World), C w → anyHeadW P md ops C n L f listed a → wpAny P md ops Q' (f + g) listed a w := by
  induction f with
  | zero => intro listed a w hw h; rw [Nat.zero_add]; exact hL _ _ _ hw h
  | succ f ih =>
    intro listed a w hw h
    rw [show f + 1 + g = (f + g) + 1 by omega]
    exact ⟨fun h0 => absurd h0 h.1, fun i hi => wpOp_of_wOp hw (fun a' w' hw' h' => ih _ a' w' hw' h') (h.2 i hi).2⟩
theorem headW_first {n i : Nat} {oi : Oper} {L : Array Bool → Act → Prop} (hC : ∃ w, C w) (hi : ops[i]? = some oi) (hsel : ∀ (j : Nat) (o : Oper) cs b, ops[j]? = some o → o.op ≠ .select cs b)
    (hs : Region.sinkB md ops n = true) (hc : Region.chainB md ops n = true) (hn : n < ops.size) (hin : i < n) (hdone : ∀ listed a, L listed a → ∀ j ∈ Region.ready md ops listed, n ≤ j) (f : Nat) :
    ∀ (listed : Array Bool) (a : Act), HeadInv md ops n listed →
      (∀ j oj, ops[j]? = some oj → j ≠ i → listed.getD j true = false → (∀ e ∈ oj.after, Region.binds md e = true → e.on ≠ i) → oi.apart ops oj = true) →
      i ∈ Region.ready md ops listed → (∀ w, C w → ∃ v, WithV P ops C oi a w v) → (∀ w v, C w → WithV P ops C oi a w v → anyHeadW P md ops C n L f (listed.setIfInBounds i true) (a.put oi.dst v)) → anyHeadW P md ops C n L (f + 1) listed a := by
  induction f with
  | zero =>
    intro listed a inv hfree hr hex H
    have hun := (mem_ready.1 hr).1
    refine ⟨fun h => (by rw [h] at hr; cases hr), fun j hj => ?_⟩
    have hjn : j < n := Nat.lt_of_not_le fun h => tail_waits hs hc hn inv _ i rfl hin hun j h hj
    refine ⟨hjn, ?_⟩
    by_cases hji : j = i
    · subst hji
      exact (wOp_iff hC hi).2 fun w hw => let ⟨v, hv⟩ := hex w hw; ⟨v, hv, H w v hw hv⟩
    · obtain ⟨w, hw⟩ := hC
      obtain ⟨v, hv⟩ := hex w hw
      have := hdone _ _ (H w v hw hv) j (ready_mono hj hji)
      omega
  | succ f ih =>
    intro listed a inv hfree hr hex H
    have hun := (mem_ready.1 hr).1
    refine ⟨fun h => (by rw [h] at hr; cases hr), fun j hj => ?_⟩
    have hjn : j < n := Nat.lt_of_not_le fun h => tail_waits hs hc hn inv _ i rfl hin hun j h hj
    refine ⟨hjn, ?_⟩
    by_cases hji : j = i
    · subst hji
      exact (wOp_iff hC hi).2 fun w hw => let ⟨v, hv⟩ := hex w hw; ⟨v, hv, H w v hw hv⟩
    · obtain ⟨hjun, oj, hoj, hall⟩ := mem_ready.1 hj
      have hnot : ∀ e ∈ oj.after, Region.binds md e = true → e.on ≠ i := fun e he hb heq => by
        have h3 := hall e he hb
        rw [heq, getD_both hun] at h3
        cases h3
      obtain ⟨p1, p2, p3⟩ := Oper.apart_spec (hfree j oj hoj hji hjun hnot)
      have hsi := fun cs b => hsel i oi cs b hi
      have hsj := fun cs b => hsel j oj cs b hoj
      refine (wOp_iff hC hoj).2 fun w hw => ?_
      obtain ⟨v0, hv0⟩ := hex w hw
      obtain ⟨u, hu, -⟩ := (wOp_iff hC hoj).1 ((H w v0 hw hv0).2 j (ready_mono hj hji)).2 w hw
      have hu := (withV_put hsj p1).1 hu
      have hfree' : ∀ k ok, ops[k]? = some ok → k ≠ i → (listed.setIfInBounds j true).getD k true = false → (∀ e ∈ ok.after, Region.binds md e = true → e.on ≠ i) → oi.apart ops ok = true :=
        fun k ok hk hki hlk hno => by
          refine hfree k ok hk hki ?_ hno
          by_cases hjk : j = k
          · subst hjk; exact hjun
          · rw [getD_set_ne true hjk] at hlk; exact hlk
      refine ⟨u, hu, ih (listed.setIfInBounds j true) (a.put oj.dst u) (inv.set hj hjn) hfree' (ready_mono hr (Ne.symm hji)) (fun w' hw' => let ⟨v, hv⟩ := hex w' hw'; ⟨v, (withV_put hsi p3).2 hv⟩) (fun w' v hw' hv => ?_)⟩
      obtain ⟨u', hu', hK⟩ := (wOp_iff hC hoj).1 ((H w' v hw' ((withV_put hsi p3).1 hv)).2 j (ready_mono hj hji)).2 w hw
      obtain rfl := withV_one hu ((withV_put hsj p1).1 hu')
      rw [Array.setIfInBounds_comm _ _ hji, ← Act.put_comm a v u p2]
      exact hK
theorem headW_lex {n g : Nat} {Lq : Act → Prop} (hC : ∃ w, C w) (hsel : Region.noSelect ops = true) (hs : Region.sinkB md ops n = true) (hc : Region.chainB md ops n = true) (hn : n < ops.size) (l : List Oper) :
    ∀ (k : Nat) (listed : Array Bool) (a : Act), (∀ j, j < l.length → l[j]? = ops[k + j]?) → k + l.length = n → HeadInv md ops n listed → Region.lexHead md ops g l.length k listed = true →
      wpWith P ops C Lq l a → anyHeadW P md ops C n (fun listed' a' => Region.seqB md ops g n listed' = true ∧ Lq a') l.length listed a := by
  induction l with
  | nil =>
    intro k listed a _ hk _ hB h
    obtain rfl : k = n := by simpa using hk
    exact ⟨by simpa [Region.lexHead] using hB, h⟩
  | cons o l ih =>
    intro k listed a hl hk inv hB h
    have h0 : ops[k]? = some o := by simpa using (hl 0 (by simp)).symm
    simp only [List.length_cons, Region.lexHead, Bool.and_eq_true] at hB
    obtain ⟨⟨hr, hf⟩, hB'⟩ := hB
    have hkn : k < n := by simp only [List.length_cons] at hk; omega
    have hr' : k ∈ Region.ready md ops listed := by simpa using hr
    have hst : wOp P ops C k (wpWith P ops C Lq l) a := by unfold wOp; simp only [h0]; exact h
    have hst := (wOp_iff hC h0).1 hst
    refine headW_first hC h0 (Region.noSelect_spec hsel) hs hc hn hkn (fun listed' a' hL => seqB_ready hL.1) l.length listed a inv (Region.free_spec h0 hf) hr' (fun w hw => let ⟨v, hv, _⟩ := hst w hw; ⟨v, hv⟩) (fun w v hw hv => ?_)
    obtain ⟨v', hv', hK⟩ := hst w hw
    obtain rfl := withV_one hv hv'
    exact ih (k + 1) _ _ (fun j hj => by have := hl (j + 1) (by simp; omega); simpa [Nat.add_assoc, Nat.add_comm 1 j] using this) (by simp only [List.length_cons] at hk; omega) (inv.set hr' hkn) hB' hK

/-- The first n operations in one walk; the others come behind them in a forced order. -/
theorem region_with_tail {id : Nat} {Q : Exit → Act → World → Prop} {a : Act} {w : World} {l : List Oper} (n : Nat) (hm : P.follows .mixedOrders = true) (hB : Region.lexTailB .any l.toArray n = true)
    (h : wpWith P l.toArray (fun w' => ∃ x : World, w' = ext w x) (fun a' => ∀ w', (∃ x : World, w' = ext w x) → wpList P l.toArray Q (l.drop n) a' w') (l.take n) a) : (Code.region id l.toArray true).wp P Q a w := by
  have hC : ∃ x : World, { w with drawn := w.drawn + 1 } = ext w x := ⟨w.drew, (ext_of (w := w) (x := w.drew) ((Kept.refl _ _).drew 1)).symm⟩
  simp only [Region.lexTailB, Bool.and_eq_true, decide_eq_true_eq] at hB
  obtain ⟨⟨⟨⟨hsel, hn⟩, hs⟩, hc⟩, hlex⟩ := hB
  have hn' : n < l.length := by simpa using hn
  have htl : (l.take n).length = n := by simp; omega
  have hdl : (l.drop n).length = l.toArray.size - n := by simp
  have inv0 : HeadInv .any l.toArray n (Array.replicate l.toArray.size false) :=
    ⟨by simp, fun j oj _ hl => (by rw [getD_replicate_false] at hl; cases hl), fun t _ ht => getD_in (by simpa using ht) (getD_replicate_false _ _)⟩
  have H := headW_lex (md := .any) (g := l.toArray.size - n) ⟨_, hC⟩ hsel hs hc hn (l.take n) 0 _ a (fun j hj => by
    have hj' : j < n := by rw [htl] at hj; exact hj
    simp [hj']) (by simpa using htl) inv0 (by rw [htl]; exact hlex) h
  refine wp_region_any hm ?_
  have := any_of_headW (C := fun w' => ∃ x : World, w' = ext w x) (Q' := Q) (g := l.toArray.size - n) (fun listed a' w' hw' hL => by
    have := wpAny_of_seq (md := .any) (Q' := Q) (l.drop n) n listed a' w' (fun j => by simp [List.getElem?_drop]) (by rw [hdl]; exact hL.1) (hL.2 w' hw')
    rwa [hdl] at this) _ _ _ { w with drawn := w.drawn + 1 } hC H
  rw [htl, show n + (l.toArray.size - n) = l.toArray.size by omega] at this
  exact this

/-- An operation of floats, its value known but for which NaN it is. -/
theorem wpWith_float {w : World} {Q : Act → Prop} {a : Act} {o : Oper} {rest : List Oper} {op : BinOp} {t t2 : TypeId} {xo yo : Operand} {k : FloatKind} {p q : Nat} (hw : Region.wanted o (yielded ops a.tmps) = true)
    (ho : o.op = .binOp op t xo yo t2) (hop : op = .add ∨ op = .sub ∨ op = .mul ∨ op = .quo) (hx : a.eval xo = .float k p) (hy : a.eval yo = .float k q)
    (h : ∀ r, cl k r = fC op k p q → wpWith P ops (fun w' => ∃ x : World, w' = ext w x) Q rest (a.put o.dst (.float k r))) : wpWith P ops (fun w' => ∃ x : World, w' = ext w x) Q (o :: rest) a := by
  refine wpWith_dep hw fun K hK w' hw' => ?_
  obtain ⟨x, rfl⟩ := hw'
  refine ⟨.float k (fV op k p q (ext w x)), ?_, hK _ (h _ (cl_fV' ..))⟩
  have hg : eqGuard op t xo yo (.float k p) (.float k q) = pure () := by rcases hop with rfl | rfl | rfl | rfl <;> rfl
  unfold Oper.withAt execOp
  rw [ho]
  simp only [hx, hy, hg, pure_bind, Sem.run_bind, run_arith (P := P) (ext w x) op t k p q hop]
  exact ⟨ext_drew _ _ _, rfl⟩
theorem fC_l {op : BinOp} {k : FloatKind} {x y c : Nat} (h : cl k x = c) : fC op k x y = fC op k c y := by rw [← h, fC_cl_l]
theorem fC_r {op : BinOp} {k : FloatKind} {x y c : Nat} (h : cl k y = c) : fC op k x y = fC op k x c := by rw [← h, fC_cl_r]
theorem cl_exact {k : FloatKind} {x c : Nat} (h : cl k x = c) (hn : nan k c = false) : x = c := by
  rw [← h, nan_cl] at hn
  rw [← h, cl_not hn]
end
end Go.Proofs.Ytflmfjimemhooaa
