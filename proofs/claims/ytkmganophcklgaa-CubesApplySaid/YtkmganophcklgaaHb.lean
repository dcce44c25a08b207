/- A region that draws its order and makes one box that may come at any time: the box first in the proof, then operations that turn nothing old, then others in a forced order. Conditions: none. -/
import Derived.Test.YtkmganophcklgaaHo
namespace Go.Proofs.Ytkmganophcklgaa
open Go.RowKit
open Fl Qt

section
variable {P : Program} {ops : Array Oper} {md : Region.Mode}

/-- A box of these cells, made since w. -/
structure BoxAt (w : World) (B : Nat) (c : Array Value) (w' : World) : Prop where
  kept : Kept None' w w'
  le : w.heap.size ≤ B
  lt : B < w'.heap.size
  cell : ∀ (j : Nat) (v : Value), c[j]? = some v → w'.cell? ⟨B, j, none⟩ = some v
  fz : ∀ j, w'.frozen? ⟨B, j, none⟩ = false
theorem BoxAt.step {w : World} {B : Nat} {c : Array Value} {w' w2 : World} (h : BoxAt w B c w') (k : Kept None' w' w2) : BoxAt w B c w2 :=
  ⟨h.kept.trans k, h.le, Nat.lt_of_lt_of_le h.lt k.size, fun j v hv => k.some (h.cell j v hv) id, fun j => (k.frozen _).trans (h.fz j)⟩
theorem BoxAt.new {w w' : World} (c : Array Value) (t : TypeId) (k : Kept None' w w') : BoxAt w w'.heap.size c (w'.alloc (.cells c t)) :=
  ⟨k.alloc _ _, k.size, by simp, fun j v hv => (cell_alloc_one w' c t j).trans hv, fun j => (frozen?_alloc_cells _ _ _ _).trans (frozen_new _ _ (Nat.le_refl _))⟩

theorem ext_cell2 {w : World} {a : Addr} {v : Value} (h : w.cell? a = some v) (y x : World) : (ext (ext w y) x).cell? a = some v := ext_cell (ext_cell h y) x
theorem ext_kept2 (w y x : World) : Kept None' w (ext (ext w y) x) := (ext_kept w y).trans (ext_kept _ x)
/-- One value in every world in which of w nothing has turned, and no step turns anything. -/
def DetS (P : Program) (ops : Array Oper) (w : World) (o : Oper) (a : Act) (v : Value) : Prop := ∀ W, Kept None' w W → WithV P ops (fun w' => Kept None' W w') o a W v
theorem DetS.put {w : World} {o : Oper} (hs : ∀ cs b, o.op ≠ .select cs b) {a : Act} {dst : Option Tmp} {v u : Value} (h : ∀ d, dst = some d → d ∉ o.looksAt ops) : DetS P ops w o (a.put dst v) u ↔ DetS P ops w o a u :=
  ⟨fun g W hW => (withV_put hs h).1 (g W hW), fun g W hW => (withV_put hs h).2 (g W hW)⟩
theorem DetS.one {w : World} {o : Oper} {a : Act} {v u : Value} (h1 : DetS P ops w o a v) (h2 : DetS P ops w o a u) : v = u := withV_one (h1 w (Kept.refl _ _)) (h2 w (Kept.refl _ _))
/-- The walk. -/
def wpStep (P : Program) (ops : Array Oper) (w : World) (Q : Act → Prop) : List Oper → Act → Prop
  | [], a => Q a
  | o :: r, a => ∃ v, DetS P ops w o a v ∧ wpStep P ops w Q r (a.put o.dst v)
theorem wpStep_nil {w : World} {Q : Act → Prop} {a : Act} (h : Q a) : wpStep P ops w Q [] a := h
theorem withAt_mono {C C' : World → Prop} {o : Oper} {a : Act} {w : World} {v : Value} (hc : ∀ w, C w → C' w) (h : Oper.withAt P o a C w v) : Oper.withAt P o a C' w v := by
  unfold Oper.withAt at *
  generalize (execOp a.eval o).run P w = r at *
  cases r with
  | ok n w' =>
    cases n <;> simp only [Oper.withUpon] at h ⊢
    case value u => exact ⟨hc _ h.1, h.2⟩
    case skip => exact ⟨hc _ h.1, h.2⟩
    case enter f args => exact ⟨h.1, h.2.mono fun e w'' ⟨x, y⟩ => ⟨x, hc _ y⟩⟩
  | halt x w' => simp only [Oper.withUpon] at h
/-- An operation that yields one value in all worlds. -/
theorem wpStep_det {w : World} {Q : Act → Prop} {a : Act} {o : Oper} {rest : List Oper} (h : ∀ y, wpQuiet P ops (fun w' => ∃ x : World, w' = ext (ext w y) x) (fun a' => wpStep P ops w Q rest a') [o] a) : wpStep P ops w Q (o :: rest) a := by
  have base : ∀ W, Kept None' w W → ∃ x : World, W = ext (ext w W) x := fun W hW => ⟨W, by rw [ext_of hW, ext_self]⟩
  have base0 : ∀ W, Kept None' w W → ∃ x : World, W = ext (ext w w) x := fun W hW => ⟨W, by rw [ext_self, ext_of hW]⟩
  by_cases hw : Region.wanted o (yielded ops a.tmps) = true
  · have h0 := h w
    unfold wpQuiet at h0
    rw [if_pos hw] at h0
    obtain ⟨v, h1, h2⟩ := h0
    refine ⟨v, fun W hW => ?_, h2⟩
    unfold WithV
    rw [if_pos hw]
    have h3 := h W
    unfold wpQuiet at h3
    rw [if_pos hw] at h3
    obtain ⟨u, h4, -⟩ := h3
    have x1 := withAt_of_quietAt (base W hW) (h4 W (base W hW))
    have x2 := withAt_of_quietAt (base0 W hW) (h1 W (base0 W hW))
    have e : u = v := withAt_one (C := fun _ => True) (withAt_mono (fun _ _ => trivial) x1) (withAt_mono (fun _ _ => trivial) x2)
    subst e
    exact withAt_mono (fun w' ⟨x, hx⟩ => by rw [hx, ext_of hW]; exact ext_kept W x) x1
  · have h0 := h w
    unfold wpQuiet at h0
    rw [if_neg hw] at h0
    refine ⟨undef, fun W hW => ?_, h0⟩
    unfold WithV
    rw [if_neg hw]

theorem wpOp_of_stepV {C : World → Prop} {i : Nat} {o : Oper} {a : Act} {v : Value} {K : Act → World → Prop} {Q' : Exit → Act → World → Prop} {w : World} (hi : ops[i]? = some o) (h : WithV P ops C o a w v) (hK : ∀ w', C w' → K (a.put o.dst v) w') (hk : C w) : wpOp P ops Q' i K a w := by
  unfold wpOp
  simp only [hi]
  unfold WithV at h
  split
  · rename_i hw
    rw [if_pos hw] at h
    refine .inl ?_
    unfold Oper.withAt at h
    unfold Oper.wp
    generalize (execOp a.eval o).run P w = r at *
    cases r with
    | ok n w' =>
      cases n <;> simp only [Oper.withUpon] at h <;> simp only [Oper.upon]
      case value u => obtain ⟨e1, rfl⟩ := h; exact hK _ e1
      case skip => obtain ⟨e1, rfl⟩ := h; exact hK _ e1
      case enter f args =>
        obtain ⟨rfl, hc⟩ := h
        exact hc.mono fun e w'' ⟨he, hw''⟩ => by subst he; exact hK _ hw''
    | halt x w' => simp only [Oper.withUpon] at h
  · rename_i hw
    rw [if_neg hw] at h
    subst h
    exact hK _ hk

def anyHeadS (P : Program) (md : Region.Mode) (ops : Array Oper) (w : World) (H : List Nat) (L : Array Bool → Act → Prop) : Nat → Array Bool → Act → Prop
  | 0, listed, a => L listed a
  | f + 1, listed, a => Region.ready md ops listed ≠ [] ∧ ∀ i ∈ Region.ready md ops listed, i ∈ H ∧ ∃ o v, ops[i]? = some o ∧ DetS P ops w o a v ∧ anyHeadS P md ops w H L f (listed.setIfInBounds i true) (a.put o.dst v)
theorem any_of_headS {w : World} {H : List Nat} {g : Nat} {L : Array Bool → Act → Prop} {D : World → Prop} {Q' : Exit → Act → World → Prop} (hD : ∀ w', D w' → Kept None' w w') (hDs : ∀ w' w2, D w' → Kept None' w' w2 → D w2)
    (hL : ∀ listed a w', D w' → L listed a → wpAny P md ops Q' g listed a w') (f : Nat) :
    ∀ (listed : Array Bool) (a : Act) (w' : World), D w' → anyHeadS P md ops w H L f listed a → wpAny P md ops Q' (f + g) listed a w' := by
  induction f with
  | zero => intro listed a w' hw h; rw [Nat.zero_add]; exact hL _ _ _ hw h
  | succ f ih =>
    intro listed a w' hw h
    rw [show f + 1 + g = (f + g) + 1 by omega]
    refine ⟨fun h0 => absurd h0 h.1, fun i hi => ?_⟩
    obtain ⟨-, o, v, ho, hv, hK⟩ := h.2 i hi
    exact wpOp_of_stepV ho (hv w' (hD _ hw)) (fun w2 hk => ih _ _ _ (hDs _ _ hw hk) hK) (Kept.refl _ _)
theorem headS_first {w : World} {Z H : List Nat} {i : Nat} {oi : Oper} {v : Value} {L : Array Bool → Act → Prop} (hi : ops[i]? = some oi) (hiH : i ∈ H) (hsel : ∀ (j : Nat) (o : Oper) cs b, ops[j]? = some o → o.op ≠ .select cs b)
    (inH : ∀ listed, PlanInv md ops Z listed → listed.getD i true = false → ∀ j ∈ Region.ready md ops listed, j ∈ H) (hdone : ∀ listed a, L listed a → ∀ j ∈ H, listed.getD j true = true) (f : Nat) :
    ∀ (listed : Array Bool) (a : Act), PlanInv md ops Z listed →
      (∀ j oj, ops[j]? = some oj → j ≠ i → listed.getD j true = false → (∀ e ∈ oj.after, Region.binds md e = true → e.on ≠ i) → oi.apart ops oj = true) →
      i ∈ Region.ready md ops listed → DetS P ops w oi a v → anyHeadS P md ops w H L f (listed.setIfInBounds i true) (a.put oi.dst v) → anyHeadS P md ops w H L (f + 1) listed a := by
  induction f with
  | zero =>
    intro listed a inv hfree hr hv K
    refine ⟨fun h => (by rw [h] at hr; cases hr), fun j hj => ?_⟩
    have hjH := inH listed inv (mem_ready.1 hr).1 j hj
    by_cases hji : j = i
    · subst hji; exact ⟨hjH, oi, v, hi, hv, K⟩
    · have := hdone _ _ K j hjH
      rw [getD_set_ne true (Ne.symm hji), (mem_ready.1 hj).1] at this
      cases this
  | succ f ih =>
    intro listed a inv hfree hr hv K
    have hun := (mem_ready.1 hr).1
    refine ⟨fun h => (by rw [h] at hr; cases hr), fun j hj => ?_⟩
    have hjH := inH listed inv hun j hj
    by_cases hji : j = i
    · subst hji; exact ⟨hjH, oi, v, hi, hv, K⟩
    · obtain ⟨hjun, oj, hoj, hall⟩ := mem_ready.1 hj
      have hnot : ∀ e ∈ oj.after, Region.binds md e = true → e.on ≠ i := fun e he hb heq => by
        have h3 := hall e he hb
        rw [heq, getD_both hun] at h3
        cases h3
      obtain ⟨p1, p2, p3⟩ := Oper.apart_spec (hfree j oj hoj hji hjun hnot)
      obtain ⟨-, oj', u, hoj', hu, hK⟩ := K.2 j (ready_mono hj hji)
      obtain rfl : oj = oj' := Option.some.inj (hoj.symm.trans hoj')
      have hfree' : ∀ k ok, ops[k]? = some ok → k ≠ i → (listed.setIfInBounds j true).getD k true = false → (∀ e ∈ ok.after, Region.binds md e = true → e.on ≠ i) → oi.apart ops ok = true :=
        fun k ok hk hki hlk hno => by
          refine hfree k ok hk hki ?_ hno
          by_cases hjk : j = k
          · subst hjk; exact hjun
          · rw [getD_set_ne true hjk] at hlk; exact hlk
      refine ⟨hjH, oj, u, hoj, (DetS.put (fun cs b => hsel j oj cs b hoj) p1).1 hu, ?_⟩
      refine ih _ _ (inv.set hj) hfree' (ready_mono hr (Ne.symm hji)) ((DetS.put (fun cs b => hsel i oi cs b hi) p3).2 hv) ?_
      rw [Array.setIfInBounds_comm _ _ hji, ← Act.put_comm a v u p2]
      exact hK
theorem headS_ord {w : World} {Z H : List Nat} {Lq : Act → Prop} {B : Array Bool → Bool} (hsel : Region.noSelect ops = true) (inH : ∀ i ∈ H, ∀ listed, PlanInv md ops Z listed → listed.getD i true = false → ∀ j ∈ Region.ready md ops listed, j ∈ H) :
    ∀ (ord : List Nat) (l : List Oper) (listed : Array Bool) (a : Act), (∀ x ∈ ord, x ∈ H) → (∀ x ∈ H, x ∈ ord ∨ listed.getD x true = true) → ord.map (ops[·]?) = l.map some → PlanInv md ops Z listed → ordO md ops B ord listed = true →
      wpStep P ops w Lq l a → anyHeadS P md ops w H (fun listed' a' => (B listed' = true ∧ PlanInv md ops Z listed' ∧ ∀ x ∈ H, listed'.getD x true = true) ∧ Lq a') ord.length listed a
  | [], l, listed, a, _, hdo, hl, inv, hB, h => by
    cases l with
    | nil => exact ⟨⟨by simpa [ordO] using hB, inv, fun x hx => (hdo x hx).resolve_left (by simp)⟩, h⟩
    | cons o l => simp at hl
  | i :: r, l, listed, a, hsub, hdo, hl, inv, hB, h => by
    cases l with
    | nil => simp at hl
    | cons o l =>
      simp only [List.map_cons, List.cons.injEq] at hl
      simp only [ordO, Bool.and_eq_true] at hB
      obtain ⟨⟨hr, hf⟩, hB'⟩ := hB
      have hr' : i ∈ Region.ready md ops listed := by simpa using hr
      have hiH := hsub i List.mem_cons_self
      obtain ⟨v, hv, hK⟩ := h
      refine headS_first hl.1 hiH (Region.noSelect_spec hsel) (inH i hiH) (fun listed' a' hL => hL.1.2.2) r.length listed a inv (Region.free_spec hl.1 hf) hr' hv ?_
      refine headS_ord hsel inH r l _ _ (fun x hx => hsub x (List.mem_cons_of_mem _ hx)) (fun x hx => ?_) hl.2 (inv.set hr') hB' hK
      rcases hdo x hx with h | h
      · rcases List.mem_cons.1 h with rfl | h
        · refine .inr ?_
          rcases Nat.lt_or_ge x listed.size with h' | h'
          · simp [h']
          · simp
        · exact .inl h
      · exact .inr (getD_mono h)
/-- The box may come at any time. -/
theorem float_any {H : List Nat} {ia : Nat} {t : Tmp} {oa : Oper} {c : Array Value} {ty : TypeId} {w : World} {L : Value → Array Bool → Act → Prop} {g : Nat} {Q' : Exit → Act → World → Prop} (hia : ops[ia]? = some oa) (hg : oa.guard = none) (hd : oa.dst = some t)
    (hA : ∀ (a : Act) w', (execOp a.eval oa).run P w' = .ok (.value (.pointer (some ⟨w'.heap.size, 0, none⟩))) (w'.alloc (.cells c ty))) (hap : ∀ j ∈ H, ∀ oj, ops[j]? = some oj → oa.apart ops oj = true) (hsel : ∀ (j : Nat) (o : Oper) cs b, ops[j]? = some o → o.op ≠ .select cs b)
    (inH : ∀ listed, PlanInv md ops [] listed → listed.getD ia true = false → ∀ j ∈ Region.ready md ops listed, j ≠ ia → j ∈ H) (hdone : ∀ u listed a, L u listed a → ∀ j ∈ H, listed.getD j true = true)
    (hL : ∀ B listed a w', BoxAt w B c w' → L (.pointer (some ⟨B, 0, none⟩)) listed a → wpAny P md ops Q' g listed a w') (f : Nat) :
    ∀ (listed : Array Bool) (a : Act) (w' : World), PlanInv md ops [] listed → Kept None' w w' → ia ∈ Region.ready md ops listed →
      (∀ u, anyHeadS P md ops w H (L u) f (listed.setIfInBounds ia true) (a.put (some t) u)) → wpAny P md ops Q' (f + g + 1) listed a w' := by
  have self : ∀ (f : Nat) (listed : Array Bool) (a : Act) (w' : World), Kept None' w w' → (∀ u, anyHeadS P md ops w H (L u) f (listed.setIfInBounds ia true) (a.put (some t) u)) → wpOp P ops Q' ia (wpAny P md ops Q' (f + g) (listed.setIfInBounds ia true)) a w' := fun f listed a w' hk hh => by
    unfold wpOp
    simp only [hia]
    have hw : Region.wanted oa (yielded ops a.tmps) = true := by simp [Region.wanted, hg]
    rw [if_pos hw]
    refine .inl ?_
    unfold Oper.wp
    rw [hA]
    simp only [Oper.upon]
    rw [hd]
    exact any_of_headS (D := BoxAt w w'.heap.size c) (fun _ h => h.kept) (fun _ _ h k => h.step k) (hL _) f _ _ _ (BoxAt.new c ty hk) (hh _)
  induction f with
  | zero =>
    intro listed a w' inv hk hr hh
    refine ⟨fun h => (by rw [h] at hr; cases hr), fun j hj => ?_⟩
    by_cases hji : j = ia
    · subst hji; exact self 0 listed a w' hk hh
    · have := hdone _ _ _ (hh undef) j (inH listed inv (mem_ready.1 hr).1 j hj hji)
      rw [getD_set_ne true (Ne.symm hji), (mem_ready.1 hj).1] at this
      cases this
  | succ f ih =>
    intro listed a w' inv hk hr hh
    refine ⟨fun h => (by rw [h] at hr; cases hr), fun j hj => ?_⟩
    by_cases hji : j = ia
    · subst hji; exact self (f + 1) listed a w' hk hh
    · obtain ⟨hjH, oj, v, hoj, hv, -⟩ := (hh undef).2 j (ready_mono hj hji)
      obtain ⟨p1, p2, p3⟩ := Oper.apart_spec (hap j hjH oj hoj)
      rw [hd] at p1 p2
      have hsj := fun cs b => hsel j oj cs b hoj
      have hv' := (DetS.put hsj p1).1 hv
      refine wpOp_of_stepV hoj (hv' w' hk) (fun w2 hk2 => ?_) (Kept.refl _ _)
      rw [show f + 1 + g = f + g + 1 by omega]
      refine ih _ _ w2 (inv.set hj) (hk.trans hk2) (ready_mono hr (Ne.symm hji)) (fun u => ?_)
      obtain ⟨-, oj', v', hoj', hv2, hK⟩ := (hh u).2 j (ready_mono hj hji)
      obtain rfl : oj = oj' := Option.some.inj (hoj.symm.trans hoj')
      obtain rfl := hv'.one ((DetS.put hsj p1).1 hv2)
      rw [Array.setIfInBounds_comm _ _ hji, ← Act.put_comm a u v p2]
      exact hK

def boxB (md : Region.Mode) (ops : Array Oper) (H : List Nat) (ia : Nat) (T : List Nat) : Bool :=
  Region.noSelect ops && ((List.range ops.size).all fun x => H.contains x || decide (x = ia) || (preO md ops ops.size ia x && H.all fun i => preO md ops ops.size i x)) && (H.all fun t => decide (t < ops.size) && !decide (t = ia))
    && (Region.ready md ops (Array.replicate ops.size false)).contains ia && ordO md ops (tailO md ops T) H ((Array.replicate ops.size false).setIfInBounds ia true) && decide (H.length + T.length + 1 = ops.size)
    && (pickO ops H).length == H.length && (pickO ops T).length == T.length && (H.all fun j => match ops[ia]?, ops[j]? with | some oa, some oj => oa.apart ops oj | _, _ => false)

/-- H: operations in the class, in this order; ia: a box that is made at any time; T: a forced order behind all. -/
theorem region_box {id : Nat} {Q : Exit → Act → World → Prop} {a : Act} {w : World} {l : List Oper} (H : List Nat) (ia : Nat) (T : List Nat) (t : Tmp) (c : Array Value) (ty : TypeId) {oa : Oper} (hm : P.follows .mixedOrders = true) (hB : boxB .any l.toArray H ia T = true)
    (hia : l.toArray[ia]? = some oa) (hg : oa.guard = none) (hd : oa.dst = some t) (hA : ∀ (a : Act) w', (execOp a.eval oa).run P w' = .ok (.value (.pointer (some ⟨w'.heap.size, 0, none⟩))) (w'.alloc (.cells c ty)))
    (h : wpStep P l.toArray w (fun a' => ∀ B w', BoxAt w B c w' → wpList P l.toArray Q (pickO l.toArray T) (a'.put (some t) (.pointer (some ⟨B, 0, none⟩))) w') (pickO l.toArray H) a) : (Code.region id l.toArray true).wp P Q a w := by
  simp only [boxB, Bool.and_eq_true, beq_iff_eq, decide_eq_true_eq] at hB
  obtain ⟨⟨⟨⟨⟨⟨⟨⟨hsel, hpre⟩, hHall⟩, hrdy⟩, hord⟩, hlen⟩, hHl⟩, hTl⟩, hap⟩ := hB
  have hap' : ∀ j ∈ H, ∀ oj, l.toArray[j]? = some oj → oa.apart l.toArray oj = true := fun j hj oj hoj => by
    have := List.all_eq_true.1 hap j hj
    rw [hia, hoj] at this
    exact this
  have inH : ∀ listed, PlanInv .any l.toArray [] listed → listed.getD ia true = false → ∀ j ∈ Region.ready .any l.toArray listed, j ≠ ia → j ∈ H := fun listed inv hun j hj hne => by
    obtain ⟨hju, oj, hoj, hall⟩ := mem_ready.1 hj
    have hjl : j < l.toArray.size := (Array.getElem?_eq_some_iff.1 hoj).1
    have hx := List.all_eq_true.1 hpre j (by simpa using hjl)
    simp only [Bool.or_eq_true, Bool.and_eq_true, List.contains_eq_mem, decide_eq_true_eq] at hx
    rcases hx with (hx | hx) | ⟨hx, -⟩
    · exact hx
    · exact absurd hx hne
    · have := pre_listed inv.closed _ j oj hoj hall hx
      rw [getD_both hun] at this
      cases this
  have inH2 : ∀ i ∈ H, ∀ listed, PlanInv .any l.toArray [ia] listed → listed.getD i true = false → ∀ j ∈ Region.ready .any l.toArray listed, j ∈ H := fun i hi listed inv hun j hj => by
    obtain ⟨hju, oj, hoj, hall⟩ := mem_ready.1 hj
    have hjl : j < l.toArray.size := (Array.getElem?_eq_some_iff.1 hoj).1
    have hx := List.all_eq_true.1 hpre j (by simpa using hjl)
    simp only [Bool.or_eq_true, Bool.and_eq_true, List.contains_eq_mem, decide_eq_true_eq] at hx
    rcases hx with (hx | hx) | ⟨-, hx⟩
    · exact hx
    · subst hx
      have := inv.pure j (by simp)
      rw [hju] at this
      cases this
    · have := pre_listed inv.closed _ j oj hoj hall (List.all_eq_true.1 hx i hi)
      rw [getD_both hun] at this
      cases this
  have hr0 : ia ∈ Region.ready .any l.toArray (Array.replicate l.toArray.size false) := by simpa using hrdy
  have inv0 : PlanInv .any l.toArray [] (Array.replicate l.toArray.size false) := ⟨by simp, fun j oj _ hl => (by rw [getD_replicate_false] at hl; cases hl), fun z hz => (by cases hz)⟩
  have inv1 : PlanInv .any l.toArray [ia] ((Array.replicate l.toArray.size false).setIfInBounds ia true) := by
    refine ⟨(inv0.set hr0).size, (inv0.set hr0).closed, fun z hz => ?_⟩
    obtain rfl : z = ia := by simpa using hz
    simp
  refine wp_region_any hm ?_
  rw [show l.toArray.size = H.length + T.length + 1 by omega]
  refine float_any (w := w) (c := c) (ty := ty) (L := fun u listed' a' => (tailO .any l.toArray T listed' = true ∧ PlanInv .any l.toArray [ia] listed' ∧ ∀ x ∈ H, listed'.getD x true = true) ∧ ∃ a'' : Act, a' = a''.put (some t) u ∧ ∀ B w', BoxAt w B c w' → wpList P l.toArray Q (pickO l.toArray T) (a''.put (some t) (.pointer (some ⟨B, 0, none⟩))) w') hia hg hd hA hap' (Region.noSelect_spec hsel) inH (fun u listed a hL => hL.1.2.2) ?_ H.length (Array.replicate (H.length + T.length + 1) false) a { w with drawn := w.drawn + 1 } ?_ ((Kept.refl _ _).drew 1) ?_ ?_
  · rintro B listed' a' w' hb ⟨⟨hT, -, -⟩, a'', rfl, hq⟩
    exact wpAny_of_tailO T (pickO l.toArray T) listed' _ w' (pick_map T hTl) hT (hq B w' hb)
  · rw [show H.length + T.length + 1 = l.toArray.size by omega]; exact inv0
  · rw [show H.length + T.length + 1 = l.toArray.size by omega]; exact hr0
  · intro u
    rw [show H.length + T.length + 1 = l.toArray.size by omega]
    refine headS_ord (Lq := fun a' => ∃ a'' : Act, a' = a''.put (some t) u ∧ ∀ B w', BoxAt w B c w' → wpList P l.toArray Q (pickO l.toArray T) (a''.put (some t) (.pointer (some ⟨B, 0, none⟩))) w') hsel inH2 H (pickO l.toArray H) _ _ (fun x hx => hx) (fun x hx => .inl hx) (pick_map H hHl) inv1 hord ?_
    have key : ∀ (ord : List Nat) (lo : List Oper) (a : Act), (∀ x ∈ ord, x ∈ H) → ord.map (l.toArray[·]?) = lo.map some → wpStep P l.toArray w (fun a' => ∀ B w', BoxAt w B c w' → wpList P l.toArray Q (pickO l.toArray T) (a'.put (some t) (.pointer (some ⟨B, 0, none⟩))) w') lo a →
        wpStep P l.toArray w (fun a' => ∃ a'' : Act, a' = a''.put (some t) u ∧ ∀ B w', BoxAt w B c w' → wpList P l.toArray Q (pickO l.toArray T) (a''.put (some t) (.pointer (some ⟨B, 0, none⟩))) w') lo (a.put (some t) u) := by
      intro ord
      induction ord with
      | nil =>
        intro lo a _ hl h
        cases lo with
        | nil => exact ⟨a, rfl, h⟩
        | cons o lo => simp at hl
      | cons i r ih =>
        intro lo a hsub hl h
        cases lo with
        | nil => simp at hl
        | cons o lo =>
          simp only [List.map_cons, List.cons.injEq] at hl
          obtain ⟨v, hv, hK⟩ := h
          obtain ⟨p1, p2, p3⟩ := Oper.apart_spec (hap' i (hsub i List.mem_cons_self) o hl.1)
          rw [hd] at p1 p2
          refine ⟨v, (DetS.put (fun cs b => Region.noSelect_spec hsel i o cs b hl.1) p1).2 hv, ?_⟩
          rw [Act.put_comm a u v p2]
          exact ih lo _ (fun x hx => hsub x (List.mem_cons_of_mem _ hx)) hl.2 hK
    exact key H _ a (fun x hx => hx) (pick_map H hHl) h
end
end Go.Proofs.Ytkmganophcklgaa
