/- A region that draws its order, walked in an order that the text chooses: pure operations ahead, then operations that turn nothing old, then others in a forced order. Conditions: none. -/
import Derived.Test.YtflmfjimemhooaaQw
namespace Go.Proofs.Ytflmfjimemhooaa
open Go.RowKit
open Fl Qt

section
variable {P : Program} {ops : Array Oper} {md : Region.Mode} {C : World → Prop}

/-- The normal ending alone. -/
def Qn (Q : Exit → Act → World → Prop) : Exit → Act → World → Prop
  | .normal, a, w => Q .normal a w
  | _, _, _ => False
theorem Qn_normal (Q : Exit → Act → World → Prop) (a : Act) (w : World) : Qn Q .normal a w = Q .normal a w := rfl
theorem Qn_out {Q : Exit → Act → World → Prop} : ¬ LetsOut (Qn Q) := fun ⟨_, _, h⟩ => h

theorem Oper.wp_Qn {Q : Exit → Act → World → Prop} {o : Oper} {a : Act} {w : World} {K : Act → World → Prop} (h : o.wp P a w K (Qn Q)) : o.wp P a w K Q := by
  unfold Oper.wp at *
  generalize (execOp a.eval o).run P w = r at *
  cases r with
  | ok n w' =>
    cases n <;> simp only [Oper.upon] at h ⊢
    case value u => exact h
    case skip => exact h
    case defer d => exact h
    case enter f args =>
      refine Calls.mono h fun e w'' he => ?_
      cases e
      · exact he
      · exact he.elim
      · exact (Qn_out he).elim
    case row row args => exact h
  | halt x w' => cases x <;> simp only [Oper.upon] at h ⊢ <;> exact h.elim
theorem wpOp_Qn {Q : Exit → Act → World → Prop} {i : Nat} {K : Act → World → Prop} {a : Act} {w : World} (h : wpOp P ops (Qn Q) i K a w) : wpOp P ops Q i K a w := by
  unfold wpOp at *
  split
  · rename_i ho; simpa [ho] using h
  · rename_i o ho
    simp only [ho] at h
    split
    · rename_i hw
      simp only [hw, if_true] at h
      rcases h with h | h
      · exact .inl (Oper.wp_Qn h)
      · exact (Qn_out h.2).elim
    · rename_i hw
      simp only [hw] at h
      exact h
theorem wpAny_Qn {Q : Exit → Act → World → Prop} : ∀ (fuel : Nat) (listed : Array Bool) (a : Act) (w : World), wpAny P md ops (Qn Q) fuel listed a w → wpAny P md ops Q fuel listed a w
  | 0, _, _, _, h => h
  | fuel + 1, _, _, _, h => ⟨h.1, fun i hi => wpOp_mono (fun a' w' h' => wpAny_Qn fuel _ a' w' h') (wpOp_Qn (h.2 i hi))⟩

/-- An operation that yields its value in every world and turns nothing. -/
def Pure (P : Program) (o : Oper) (a : Act) (v : Value) : Prop := o.guard = none ∧ ∀ w, (execOp a.eval o).run P w = .ok (.value v) w
theorem put_defers (a : Act) (d : Deferred) (x y : Option Tmp) (v u : Value) (h : ∀ d, x = some d → y ≠ some d) :
    ({ a.put x v with defers := d :: (a.put x v).defers } : Act).put y u = (({ a with defers := d :: a.defers } : Act).put y u).put x v := by
  have : ({ a.put x v with defers := d :: (a.put x v).defers } : Act) = ({ a with defers := d :: a.defers } : Act).put x v := by
    cases x <;> rfl
  rw [this]
  exact Act.put_comm _ v u h

theorem wpOp_back {Q : Exit → Act → World → Prop} {j : Nat} {oi oj : Oper} {a : Act} {v : Value} {w : World} {K1 K2 : Act → World → Prop} (hj : ops[j]? = some oj) (hap : oi.apart ops oj = true) (hsi : ∀ cs b, oi.op ≠ .select cs b) (hsj : ∀ cs b, oj.op ≠ .select cs b)
    (hp : Pure P oi a v) (hK : ∀ a' w', Pure P oi a' v → K1 (a'.put oi.dst v) w' → K2 a' w') (h : wpOp P ops (Qn Q) j K1 (a.put oi.dst v) w) : wpOp P ops (Qn Q) j K2 a w := by
  obtain ⟨p1, p2, p3⟩ := Oper.apart_spec hap
  have pure_put : ∀ (a' : Act) (u : Value), a'.tmps = a.tmps → Pure P oi (a'.put oj.dst u) v := fun a' u he => ⟨hp.1, fun w => by
    rw [execOp_put oi hsi a' oj.dst u p3]
    have : execOp a'.eval oi = execOp a.eval oi := by
      have : a'.eval = a.eval := by funext x; unfold Act.eval; rw [he]
      rw [this]
    rw [this]; exact hp.2 w⟩
  unfold wpOp at *
  simp only [hj] at h ⊢
  rw [wanted_put oj a oi.dst v p1] at h
  split
  · rename_i hw
    simp only [hw, if_true] at h
    rcases h with h | h
    · refine .inl ?_
      unfold Oper.wp at *
      rw [execOp_put oj hsj a oi.dst v p1] at h
      generalize (execOp a.eval oj).run P w = r at *
      cases r with
      | ok n w' =>
        cases n <;> simp only [Oper.upon] at h ⊢
        case value u => rw [Act.put_comm a v u p2] at h; exact hK _ _ (pure_put a u rfl) h
        case skip => rw [Act.put_comm a v undef p2] at h; exact hK _ _ (pure_put a undef rfl) h
        case defer d => rw [put_defers a d _ _ v undef p2] at h; exact hK _ _ (pure_put { a with defers := d :: a.defers } undef rfl) h
        case enter f args =>
          refine Calls.mono h fun e w'' he => ?_
          cases e with
          | returned u => dsimp only at he ⊢; rw [Act.put_comm a v u p2] at he; exact hK _ _ (pure_put a u rfl) he
          | panicked c => exact he.elim
          | outgrown => exact (Qn_out he).elim
        case row row args => exact Rows.mono h fun u w'' he => by rw [Act.put_comm a v u p2] at he; exact hK _ _ (pure_put a u rfl) he
      | halt x w' => cases x <;> simp only [Oper.upon] at h ⊢ <;> exact h.elim
    · exact (Qn_out h.2).elim
  · rename_i hw
    simp only [hw] at h
    rw [Act.put_comm a v undef p2] at h
    exact hK _ _ (pure_put a undef rfl) h

/-- A pure operation may come first. -/
theorem wpAny_pure {Q : Exit → Act → World → Prop} {i : Nat} {oi : Oper} {v : Value} (hi : ops[i]? = some oi) (hsel : ∀ (j : Nat) (o : Oper) cs b, ops[j]? = some o → o.op ≠ .select cs b) :
    ∀ (fuel : Nat) (listed : Array Bool) (a : Act) (w : World),
      (∀ j oj, ops[j]? = some oj → j ≠ i → listed.getD j true = false → (∀ e ∈ oj.after, Region.binds md e = true → e.on ≠ i) → oi.apart ops oj = true) →
      i ∈ Region.ready md ops listed → Pure P oi a v → wpAny P md ops (Qn Q) fuel (listed.setIfInBounds i true) (a.put oi.dst v) w → wpAny P md ops (Qn Q) (fuel + 1) listed a w := by
  intro fuel
  have self : ∀ (K : Act → World → Prop) (a : Act) (w : World), Pure P oi a v → K (a.put oi.dst v) w → wpOp P ops (Qn Q) i K a w := fun K a w hp h => by
    unfold wpOp
    simp only [hi]
    have hw : Region.wanted oi (yielded ops a.tmps) = true := by simp [Region.wanted, hp.1]
    rw [if_pos hw]
    refine .inl ?_
    unfold Oper.wp
    rw [hp.2 w]
    exact h
  induction fuel with
  | zero =>
    intro listed a w _ hr hp H
    refine ⟨fun h => (by rw [h] at hr; cases hr), fun j hj => ?_⟩
    by_cases hji : j = i
    · subst hji; exact self _ a w hp H
    · have := ready_mono hj hji
      rw [H.1] at this
      cases this
  | succ fuel ih =>
    intro listed a w hfree hr hp H
    refine ⟨fun h => (by rw [h] at hr; cases hr), fun j hj => ?_⟩
    by_cases hji : j = i
    · subst hji; exact self _ a w hp H
    · obtain ⟨hjun, oj, hoj, hall⟩ := mem_ready.1 hj
      have hnot : ∀ e ∈ oj.after, Region.binds md e = true → e.on ≠ i := fun e he hb heq => by
        have h1 := hall e he hb
        have h0 := (mem_ready.1 hr).1
        rw [heq, getD_both h0] at h1
        cases h1
      have hfree' : ∀ k ok, ops[k]? = some ok → k ≠ i → (listed.setIfInBounds j true).getD k true = false → (∀ e ∈ ok.after, Region.binds md e = true → e.on ≠ i) → oi.apart ops ok = true := fun k ok hk hki hun hno => by
        refine hfree k ok hk hki ?_ hno
        by_cases hjk : j = k
        · subst hjk; exact hjun
        · rw [getD_set_ne true hjk] at hun; exact hun
      refine wpOp_back hoj (hfree j oj hoj hji hjun hnot) (fun cs b => hsel i oi cs b hi) (fun cs b => hsel j oj cs b hoj) hp (fun a' w' hp' h' => ?_) (H.2 j (ready_mono hj hji))
      refine ih (listed.setIfInBounds j true) a' w' hfree' (ready_mono hr (Ne.symm hji)) hp' ?_
      rw [Array.setIfInBounds_comm _ _ hji]
      exact h'

/-! The checks: closed facts of the operations' numbers. -/
/-- i must come before x. -/
def preO (md : Region.Mode) (ops : Array Oper) : Nat → Nat → Nat → Bool
  | 0, _, _ => false
  | f + 1, i, x => Region.waitsFor md ops x i || (List.range ops.size).any fun j => decide (i < j) && Region.waitsFor md ops x j && preO md ops f i j
def tailO (md : Region.Mode) (ops : Array Oper) : List Nat → Array Bool → Bool
  | [], listed => (Region.ready md ops listed).isEmpty
  | k :: r, listed => decide (Region.ready md ops listed = [k]) && tailO md ops r (listed.setIfInBounds k true)
/-- Operations in this order, each ready and free; then K. -/
def ordO (md : Region.Mode) (ops : Array Oper) (K : Array Bool → Bool) : List Nat → Array Bool → Bool
  | [], listed => K listed
  | i :: r, listed => (Region.ready md ops listed).contains i && Region.free md ops listed i && ordO md ops K r (listed.setIfInBounds i true)
def pickO (ops : Array Oper) (l : List Nat) : List Oper := l.filterMap (ops[·]?)
def planB (md : Region.Mode) (ops : Array Oper) (Z H Y T : List Nat) : Bool :=
  Region.noSelect ops && ((List.range ops.size).all fun x => Z.contains x || H.contains x || H.all fun i => preO md ops ops.size i x) && (H.all fun t => decide (t < ops.size) && !Z.contains t)
    && ordO md ops (ordO md ops (ordO md ops (tailO md ops T) Y) H) Z (Array.replicate ops.size false) && decide (Z.length + (H.length + (Y.length + T.length)) = ops.size)
    && (pickO ops Z).length == Z.length && (pickO ops H).length == H.length && (pickO ops Y).length == Y.length && (pickO ops T).length == T.length

structure PlanInv (md : Region.Mode) (ops : Array Oper) (Z : List Nat) (listed : Array Bool) : Prop where
  size : listed.size = ops.size
  closed : ∀ j oj, ops[j]? = some oj → listed.getD j false = true → ∀ e ∈ oj.after, Region.binds md e = true → listed.getD e.on false = true
  pure : ∀ z ∈ Z, listed.getD z true = true
theorem closed_set {listed : Array Bool} {i : Nat} (hc : ∀ j oj, ops[j]? = some oj → listed.getD j false = true → ∀ e ∈ oj.after, Region.binds md e = true → listed.getD e.on false = true) (hi : i ∈ Region.ready md ops listed) :
    ∀ j oj, ops[j]? = some oj → (listed.setIfInBounds i true).getD j false = true → ∀ e ∈ oj.after, Region.binds md e = true → (listed.setIfInBounds i true).getD e.on false = true := by
  obtain ⟨_, oi, hoi, hall⟩ := mem_ready.1 hi
  intro j oj hj hl e he hb
  by_cases hij : i = j
  · subst hij
    have : oj = oi := Option.some.inj (hj.symm.trans hoi)
    subst this
    exact getD_set_true (hall e he hb)
  · rw [getD_set_ne false hij] at hl
    exact getD_set_true (hc j oj hj hl e he hb)
theorem getD_mono {listed : Array Bool} {i z : Nat} (h : listed.getD z true = true) : (listed.setIfInBounds i true).getD z true = true := by
  by_cases hiz : i = z
  · subst hiz
    rcases Nat.lt_or_ge i listed.size with h' | h'
    · simp [h']
    · simp
  · rw [getD_set_ne true hiz]; exact h
theorem PlanInv.set {Z : List Nat} {i : Nat} {listed : Array Bool} (inv : PlanInv md ops Z listed) (hi : i ∈ Region.ready md ops listed) : PlanInv md ops Z (listed.setIfInBounds i true) :=
  ⟨by simp [inv.size], closed_set inv.closed hi, fun z hz => getD_mono (inv.pure z hz)⟩
theorem pre_listed {listed : Array Bool} (hc : ∀ j oj, ops[j]? = some oj → listed.getD j false = true → ∀ e ∈ oj.after, Region.binds md e = true → listed.getD e.on false = true) {i : Nat} :
    ∀ (f x : Nat) (ox : Oper), ops[x]? = some ox → (∀ e ∈ ox.after, Region.binds md e = true → listed.getD e.on false = true) → preO md ops f i x = true → listed.getD i false = true
  | 0, _, _, _, _, h => by cases h
  | f + 1, x, ox, hx, hw, h => by
    have step : ∀ j, Region.waitsFor md ops x j = true → listed.getD j false = true := fun j hj => by
      obtain ⟨oj, hoj, e, he, hb, hon⟩ := Region.waitsFor_spec hj
      have : oj = ox := Option.some.inj (hoj.symm.trans hx)
      subst this
      have hl := hw e he hb
      rwa [hon] at hl
    simp only [preO, Bool.or_eq_true] at h
    rcases h with h | h
    · exact step i h
    · obtain ⟨j, hj, h⟩ := List.any_eq_true.1 h
      simp only [Bool.and_eq_true] at h
      have hl := step j h.1.2
      have hjl : j < ops.size := by simpa using hj
      obtain ⟨ojj, hojj⟩ : ∃ o, ops[j]? = some o := ⟨ops[j], by simp [hjl]⟩
      exact pre_listed hc f j ojj hojj (hc j ojj hojj hl) h.2

def anyHeadO (P : Program) (md : Region.Mode) (ops : Array Oper) (C : World → Prop) (H : List Nat) (L : Array Bool → Act → Prop) : Nat → Array Bool → Act → Prop
  | 0, listed, a => L listed a
  | f + 1, listed, a => Region.ready md ops listed ≠ [] ∧ ∀ i ∈ Region.ready md ops listed, i ∈ H ∧ wOp P ops C i (anyHeadO P md ops C H L f (listed.setIfInBounds i true)) a
theorem any_of_headO {H : List Nat} {g : Nat} {L : Array Bool → Act → Prop} {Q' : Exit → Act → World → Prop} (hL : ∀ listed a w, C w → L listed a → wpAny P md ops Q' g listed a w) (f : Nat) :
    ∀ (listed : Array Bool) (a : Act) (w : World), C w → anyHeadO P md ops C H L f listed a → wpAny P md ops Q' (f + g) listed a w := by
  induction f with
  | zero => intro listed a w hw h; rw [Nat.zero_add]; exact hL _ _ _ hw h
  | succ f ih =>
    intro listed a w hw h
    rw [show f + 1 + g = (f + g) + 1 by omega]
    exact ⟨fun h0 => absurd h0 h.1, fun i hi => wpOp_of_wOp hw (fun a' w' hw' h' => ih _ a' w' hw' h') (h.2 i hi).2⟩
theorem headO_first {Z H : List Nat} {i : Nat} {oi : Oper} {L : Array Bool → Act → Prop} (hC : ∃ w, C w) (hi : ops[i]? = some oi) (hsel : ∀ (j : Nat) (o : Oper) cs b, ops[j]? = some o → o.op ≠ .select cs b)
    (inH : ∀ listed, PlanInv md ops Z listed → listed.getD i true = false → ∀ j ∈ Region.ready md ops listed, j ∈ H) (hdone : ∀ listed a, L listed a → ∀ j ∈ H, listed.getD j true = true) (f : Nat) :
    ∀ (listed : Array Bool) (a : Act), PlanInv md ops Z listed →
      (∀ j oj, ops[j]? = some oj → j ≠ i → listed.getD j true = false → (∀ e ∈ oj.after, Region.binds md e = true → e.on ≠ i) → oi.apart ops oj = true) →
      i ∈ Region.ready md ops listed → (∀ w, C w → ∃ v, WithV P ops C oi a w v) → (∀ w v, C w → WithV P ops C oi a w v → anyHeadO P md ops C H L f (listed.setIfInBounds i true) (a.put oi.dst v)) → anyHeadO P md ops C H L (f + 1) listed a := by
  induction f with
  | zero =>
    intro listed a inv hfree hr hex K
    refine ⟨fun h => (by rw [h] at hr; cases hr), fun j hj => ?_⟩
    have hjH := inH listed inv (mem_ready.1 hr).1 j hj
    refine ⟨hjH, ?_⟩
    by_cases hji : j = i
    · subst hji
      exact (wOp_iff hC hi).2 fun w hw => let ⟨v, hv⟩ := hex w hw; ⟨v, hv, K w v hw hv⟩
    · obtain ⟨w, hw⟩ := hC
      obtain ⟨v, hv⟩ := hex w hw
      have := hdone _ _ (K w v hw hv) j hjH
      rw [getD_set_ne true (Ne.symm hji), (mem_ready.1 hj).1] at this
      cases this
  | succ f ih =>
    intro listed a inv hfree hr hex K
    have hun := (mem_ready.1 hr).1
    refine ⟨fun h => (by rw [h] at hr; cases hr), fun j hj => ?_⟩
    have hjH := inH listed inv hun j hj
    refine ⟨hjH, ?_⟩
    by_cases hji : j = i
    · subst hji
      exact (wOp_iff hC hi).2 fun w hw => let ⟨v, hv⟩ := hex w hw; ⟨v, hv, K w v hw hv⟩
    · obtain ⟨hjun, oj, hoj, hall⟩ := mem_ready.1 hj
      have hnot : ∀ e ∈ oj.after, Region.binds md e = true → e.on ≠ i := fun e he hb heq => by
        have h3 := hall e he hb
        rw [heq, getD_both hun] at h3
        cases h3
      obtain ⟨p1, p2, p3⟩ := Oper.apart_spec (hfree j oj hoj hji hjun hnot)
      have hsi := fun cs b => hsel i oi cs b hi
      have hsj := fun cs b => hsel j oj cs b hoj
      refine (wOp_iff hC hoj).2 fun w hw => ?_
      obtain ⟨v0, hv0⟩ := hex w hw
      obtain ⟨u, hu, -⟩ := (wOp_iff hC hoj).1 ((K w v0 hw hv0).2 j (ready_mono hj hji)).2 w hw
      have hu := (withV_put hsj p1).1 hu
      have hfree' : ∀ k ok, ops[k]? = some ok → k ≠ i → (listed.setIfInBounds j true).getD k true = false → (∀ e ∈ ok.after, Region.binds md e = true → e.on ≠ i) → oi.apart ops ok = true :=
        fun k ok hk hki hlk hno => by
          refine hfree k ok hk hki ?_ hno
          by_cases hjk : j = k
          · subst hjk; exact hjun
          · rw [getD_set_ne true hjk] at hlk; exact hlk
      refine ⟨u, hu, ih (listed.setIfInBounds j true) (a.put oj.dst u) (inv.set hj) hfree' (ready_mono hr (Ne.symm hji)) (fun w' hw' => let ⟨v, hv⟩ := hex w' hw'; ⟨v, (withV_put hsi p3).2 hv⟩) (fun w' v hw' hv => ?_)⟩
      obtain ⟨u', hu', hK⟩ := (wOp_iff hC hoj).1 ((K w' v hw' ((withV_put hsi p3).1 hv)).2 j (ready_mono hj hji)).2 w hw
      obtain rfl := withV_one hu ((withV_put hsj p1).1 hu')
      rw [Array.setIfInBounds_comm _ _ hji, ← Act.put_comm a v u p2]
      exact hK
theorem headO_ord {Z H : List Nat} {Lq : Act → Prop} {B : Array Bool → Bool} (hC : ∃ w, C w) (hsel : Region.noSelect ops = true) (inH : ∀ i ∈ H, ∀ listed, PlanInv md ops Z listed → listed.getD i true = false → ∀ j ∈ Region.ready md ops listed, j ∈ H) :
    ∀ (ord : List Nat) (l : List Oper) (listed : Array Bool) (a : Act), (∀ x ∈ ord, x ∈ H) → (∀ x ∈ H, x ∈ ord ∨ listed.getD x true = true) → ord.map (ops[·]?) = l.map some → PlanInv md ops Z listed → ordO md ops B ord listed = true →
      wpWith P ops C Lq l a → anyHeadO P md ops C H (fun listed' a' => (B listed' = true ∧ PlanInv md ops Z listed' ∧ ∀ x ∈ H, listed'.getD x true = true) ∧ Lq a') ord.length listed a
  | [], l, listed, a, _, hdo, hl, inv, hB, h => by
    cases l with
    | nil => exact ⟨⟨by simpa [ordO] using hB, inv, fun x hx => (hdo x hx).resolve_left (by simp)⟩, h⟩
    | cons o l => simp at hl
  | i :: r, l, listed, a, hsub, hdo, hl, inv, hB, h => by
    cases l with
    | nil => simp at hl
    | cons o l =>
      simp only [List.map_cons, List.cons.injEq] at hl
      simp only [ordO, Bool.and_eq_true] at hB
      obtain ⟨⟨hr, hf⟩, hB'⟩ := hB
      have hr' : i ∈ Region.ready md ops listed := by simpa using hr
      have hiH := hsub i List.mem_cons_self
      have hst : wOp P ops C i (wpWith P ops C Lq l) a := by unfold wOp; simp only [hl.1]; exact h
      have hst := (wOp_iff hC hl.1).1 hst
      refine headO_first hC hl.1 (Region.noSelect_spec hsel) (inH i hiH) (fun listed' a' hL => hL.1.2.2) r.length listed a inv (Region.free_spec hl.1 hf) hr' (fun w hw => let ⟨v, hv, _⟩ := hst w hw; ⟨v, hv⟩) (fun w v hw hv => ?_)
      obtain ⟨v', hv', hK⟩ := hst w hw
      obtain rfl := withV_one hv hv'
      refine headO_ord hC hsel inH r l _ _ (fun x hx => hsub x (List.mem_cons_of_mem _ hx)) (fun x hx => ?_) hl.2 (inv.set hr') hB' hK
      rcases hdo x hx with h | h
      · rcases List.mem_cons.1 h with rfl | h
        · refine .inr ?_
          rcases Nat.lt_or_ge x listed.size with h' | h'
          · simp [h']
          · simp
        · exact .inl h
      · exact .inr (getD_mono h)
theorem wpAny_of_tailO {Q' : Exit → Act → World → Prop} : ∀ (T : List Nat) (l : List Oper) (listed : Array Bool) (a : Act) (w : World), T.map (ops[·]?) = l.map some →
    tailO md ops T listed = true → wpList P ops Q' l a w → wpAny P md ops Q' T.length listed a w
  | [], l, _, _, _, hl, hB, h => by
    cases l with
    | nil => exact ⟨by simpa [tailO] using hB, h⟩
    | cons o l => simp at hl
  | k :: r, l, listed, a, w, hl, hB, h => by
    cases l with
    | nil => simp at hl
    | cons o l =>
      simp only [List.map_cons, List.cons.injEq] at hl
      simp only [tailO, Bool.and_eq_true, decide_eq_true_eq] at hB
      refine ⟨fun h1 => (by rw [hB.1] at h1; cases h1), fun i hi => ?_⟩
      rw [hB.1] at hi
      have hik : i = k := by simpa using hi
      subst hik
      have hw : wpOp P ops Q' i (wpList P ops Q' l) a w := by unfold wpOp; simp only [hl.1]; exact h
      exact wpOp_mono (fun a' w' h' => wpAny_of_tailO r l _ a' w' hl.2 hB.2 h') hw

/-- Pure operations, each with its value. -/
def wpPure (P : Program) (Q : Act → Prop) : List Oper → Act → Prop
  | [], a => Q a
  | o :: r, a => ∃ v, Pure P o a v ∧ wpPure P Q r (a.put o.dst v)
theorem wpPure_nil {Q : Act → Prop} {a : Act} (h : Q a) : wpPure P Q [] a := h
theorem wpPure_cons {Q : Act → Prop} {a : Act} {o : Oper} {r : List Oper} (v : Value) (hg : o.guard = none) (hr : ∀ w, (execOp a.eval o).run P w = .ok (.value v) w) (h : wpPure P Q r (a.put o.dst v)) : wpPure P Q (o :: r) a := ⟨v, ⟨hg, hr⟩, h⟩
theorem pick_map {ops : Array Oper} : ∀ (l : List Nat), (pickO ops l).length = l.length → l.map (ops[·]?) = (pickO ops l).map some
  | [], _ => rfl
  | i :: r, h => by
    unfold pickO at *
    cases e : ops[i]? with
    | none =>
      rw [List.filterMap_cons_none e] at h
      have := List.length_filterMap_le (fun x : Nat => ops[x]?) r
      rw [List.length_cons] at h
      exact absurd this (by rw [h]; omega)
    | some o =>
      rw [List.filterMap_cons_some e] at h ⊢
      simp only [List.length_cons, Nat.add_right_cancel_iff] at h
      simp only [List.map_cons, e]
      rw [pick_map r h]
      rfl
theorem pureO_ord {Q : Exit → Act → World → Prop} {Lq : Act → Prop} {w : World} {Z0 : List Nat} {B : Array Bool → Bool} (hsel : Region.noSelect ops = true) (n : Nat)
    (hL : ∀ listed a, PlanInv md ops Z0 listed → B listed = true → Lq a → wpAny P md ops (Qn Q) n listed a w) :
    ∀ (Z : List Nat) (l : List Oper) (listed : Array Bool) (a : Act), Z.map (ops[·]?) = l.map some → (∀ j oj, ops[j]? = some oj → listed.getD j false = true → ∀ e ∈ oj.after, Region.binds md e = true → listed.getD e.on false = true) → listed.size = ops.size →
      (∀ z ∈ Z0, z ∈ Z ∨ listed.getD z true = true) → ordO md ops B Z listed = true → wpPure P Lq l a → wpAny P md ops (Qn Q) (Z.length + n) listed a w
  | [], l, listed, a, hl, hcl, hsz, hcov, hB, h => by
    cases l with
    | nil =>
      rw [List.length_nil, Nat.zero_add]
      exact hL listed a ⟨hsz, hcl, fun z hz => (hcov z hz).resolve_left (by simp)⟩ (by simpa [ordO] using hB) h
    | cons o l => simp at hl
  | i :: r, l, listed, a, hl, hcl, hsz, hcov, hB, h => by
    cases l with
    | nil => simp at hl
    | cons o l =>
      simp only [List.map_cons, List.cons.injEq] at hl
      simp only [ordO, Bool.and_eq_true] at hB
      obtain ⟨⟨hr, hf⟩, hB'⟩ := hB
      have hr' : i ∈ Region.ready md ops listed := by simpa using hr
      obtain ⟨v, hp, h⟩ := h
      rw [show (i :: r).length + n = (r.length + n) + 1 by simp; omega]
      refine wpAny_pure hl.1 (Region.noSelect_spec hsel) _ listed a w (Region.free_spec hl.1 hf) hr' hp ?_
      refine pureO_ord hsel n hL r l _ _ hl.2 (closed_set hcl hr') (by simp [hsz]) (fun z hz => ?_) hB' h
      rcases hcov z hz with h | h
      · rcases List.mem_cons.1 h with rfl | h
        · refine .inr ?_
          rcases Nat.lt_or_ge z listed.size with h' | h'
          · simp [h']
          · simp
        · exact .inl h
      · exact .inr (getD_mono h)

/-- Z: pure operations ahead; H: operations in the class 'ext', in this order; Y: pure operations behind them; T: a forced order behind those. -/
theorem region_plan {id : Nat} {Q : Exit → Act → World → Prop} {a : Act} {w : World} {l : List Oper} (Z H Y T : List Nat) (hm : P.follows .mixedOrders = true) (hB : planB .any l.toArray Z H Y T = true)
    (h : wpPure P (fun a' => wpWith P l.toArray (fun w' => ∃ x : World, w' = ext w x) (fun a'' => wpPure P (fun a3 => ∀ w', (∃ x : World, w' = ext w x) → wpList P l.toArray (Qn Q) (pickO l.toArray T) a3 w') (pickO l.toArray Y) a'') (pickO l.toArray H) a') (pickO l.toArray Z) a) : (Code.region id l.toArray true).wp P Q a w := by
  have hC : ∃ x : World, { w with drawn := w.drawn + 1 } = ext w x := ⟨w.drew, (ext_of (w := w) (x := w.drew) ((Kept.refl _ _).drew 1)).symm⟩
  simp only [planB, Bool.and_eq_true, beq_iff_eq, decide_eq_true_eq] at hB
  obtain ⟨⟨⟨⟨⟨⟨⟨⟨hsel, hpre⟩, hHall⟩, hord⟩, hlen⟩, hZl⟩, hHl⟩, hYl⟩, hTl⟩ := hB
  refine wp_region_any hm (wpAny_Qn _ _ _ _ ?_)
  rw [show l.toArray.size = Z.length + (H.length + (Y.length + T.length)) by omega]
  refine pureO_ord (md := .any) (Z0 := Z) hsel (H.length + (Y.length + T.length)) ?_ Z (pickO l.toArray Z) _ a (pick_map Z hZl) (fun j oj _ hl => ?_) (by simp; have := hlen; simp at this; omega) (fun z hz => .inl hz) (by rw [show Z.length + (H.length + (Y.length + T.length)) = l.toArray.size by omega]; exact hord) h
  · intro listed a' inv hhead hLq
    have inH : ∀ i ∈ H, ∀ listed, PlanInv .any l.toArray Z listed → listed.getD i true = false → ∀ j ∈ Region.ready .any l.toArray listed, j ∈ H := fun i hi listed inv hun j hj => by
      obtain ⟨hju, oj, hoj, hall⟩ := mem_ready.1 hj
      have hjl : j < l.toArray.size := (Array.getElem?_eq_some_iff.1 hoj).1
      have hx := List.all_eq_true.1 hpre j (by simpa using hjl)
      simp only [Bool.or_eq_true, List.contains_eq_mem, decide_eq_true_eq] at hx
      rcases hx with (hx | hx) | hx
      · have := inv.pure j hx
        rw [hju] at this
        cases this
      · exact hx
      · have := pre_listed inv.closed _ j oj hoj hall (List.all_eq_true.1 hx i hi)
        rw [getD_both hun] at this
        cases this
    have := headO_ord (P := P) (C := fun w' => ∃ x : World, w' = ext w x) ⟨_, hC⟩ hsel inH H (pickO l.toArray H) listed a' (fun x hx => hx) (fun x hx => .inl hx) (pick_map H hHl) inv hhead hLq
    refine any_of_headO (fun listed a'' w' hw' hL => ?_) _ _ _ _ hC this
    obtain ⟨⟨hB2, inv2, -⟩, hY⟩ := hL
    exact pureO_ord (md := .any) (Z0 := []) hsel T.length (fun listed3 a3 _ hB3 hq => wpAny_of_tailO T (pickO l.toArray T) listed3 a3 w' (pick_map T hTl) hB3 (hq w' hw')) Y (pickO l.toArray Y) listed a'' (pick_map Y hYl) inv2.closed inv2.size (fun z hz => by cases hz) hB2 hY
  · rw [getD_replicate_false] at hl; cases hl
end
end Go.Proofs.Ytflmfjimemhooaa
