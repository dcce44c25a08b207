/- Arguments opened to cells (pixels, regions, frames, slices), and closed again behind a call that has turned nothing. Conditions: none. -/
import Derived.Test.YtflmfjimemhooaaEx
import Derived.ProofKit
import Derived.OpenShut
import Derived.Carry
import Derived.Deep.Slices
import Derived.Lib.SmallJoins
import Derived.Laws.IdiomArrays
namespace Go.Proofs.Ytflmfjimemhooaa
open Go.ChangeShapes Go.WideShapes Go.ChangeAt Go.RowKit Go.Deep

/-- A slice that reads: V i its i-th cell. -/
def Rd (w : World) (A : Option Addr) (n : Nat) (V : Nat → Value) : Prop := 0 < n → ∃ b o, A = some ⟨b, o, none⟩ ∧ ∀ i, i < n → w.cell? ⟨b, o + i, none⟩ = some (V i)
theorem Rd.kept {w w' : World} {A : Option Addr} {n : Nat} {V : Nat → Value} (h : Rd w A n V) (hk : Kept None' w w') : Rd w' A n V := fun hn => by
  obtain ⟨b, o, e, hc⟩ := h hn
  exact ⟨b, o, e, fun i hi => hk.some (hc i hi) id⟩

section
variable {H : Type} {enc : TypeId × Value → H} {P : Program} {w : World} {base : Nat} {spare : Nat → Bool} {held : Bool}

theorem trod_float {t : TypeId} {k : FloatKind} {fuel : Nat} {cs : List Value} {x : DataW H × List MemPlace} (ht : P.underlying t = some (.float k)) (h : DataW.trod enc P w base spare held fuel t cs = some x) : ∃ b, cs = [.float k b] ∧ (Lit.float k b).wf = true := by
  cases fuel with
  | zero => simp [DataW.trod] at h
  | succ n =>
    unfold DataW.trod at h
    rw [ht] at h
    split at h <;> simp_all

theorem rd_adds {a : Addr} {n : Nat} {V : Nat → Value} (h : ∀ i, i < n → w.cell? (a.add i) = some (V i)) : Rd w (some a) n V := fun hn => by
  have h0 := h 0 hn
  have ea : a.add 0 = a := by simp [Addr.add]
  rw [ea] at h0
  obtain ⟨b, o, s⟩ := a
  have hs : s = none := by
    cases s with
    | none => rfl
    | some s =>
      exfalso
      unfold World.cell? at h0
      split at h0 <;> simp at h0
  subst hs
  refine ⟨b, o, rfl, fun i hi => ?_⟩
  have := h i hi
  by_cases h0 : i = 0
  · subst h0; simpa [Addr.add] using this
  · simpa [Addr.add, h0] using this

theorem op_slice {t e : TypeId} {fuel : Nat} {cs : List Value} {x : DataW H × List MemPlace} (ht : P.underlying t = some (.slice e)) (hc : P.cellsOf e = 1) (h : DataW.trod enc P w base spare held fuel t cs = some x) :
    ∃ (A : Option Addr) (n cap m : Nat) (V : Nat → Value), cs = [.slice A n cap] ∧ n ≤ cap ∧ cap ≤ maxLen ∧ Rd w A n V ∧ (∀ i, i < n → ∃ y, DataW.trod enc P w base spare held m e [V i] = some y) := by
  rcases open_slice1 ht hc h with ⟨rfl, -⟩ | ⟨a, len, cap, m, n, V, D, Pl, rfl, -, hl, hm, hmm, -, hx⟩
  · exact ⟨none, 0, 0, 0, fun _ => undef, rfl, Nat.le_refl _, by unfold maxLen; omega, fun h => absurd h (by omega), fun i h => absurd h (by omega)⟩
  · have hlm : len ≤ m := by rw [hmm]; split <;> omega
    exact ⟨some a, len, cap, n, V, rfl, hl, hm, rd_adds fun i hi => (hx i (by omega)).1, fun i hi => ⟨_, (hx i (by omega)).2⟩⟩

theorem op_floats {t e : TypeId} {k : FloatKind} {fuel : Nat} {cs : List Value} {x : DataW H × List MemPlace} (ht : P.underlying t = some (.slice e)) (he : P.underlying e = some (.float k)) (hc : P.cellsOf e = 1) (h : DataW.trod enc P w base spare held fuel t cs = some x) :
    ∃ (A : Option Addr) (n cap : Nat) (z : Nat → Nat), cs = [.slice A n cap] ∧ n ≤ cap ∧ cap ≤ maxLen ∧ Rd w A n (fun i => .float k (z i)) ∧ (∀ i, (Lit.float k (z i)).wf = true) := by
  obtain ⟨A, n, cap, m, V, e1, e2, e3, hr, hv⟩ := op_slice ht hc h
  have key : ∀ i, ∃ b, (i < n → V i = .float k b) ∧ (Lit.float k b).wf = true := fun i => by
    by_cases hi : i < n
    · obtain ⟨y, hy⟩ := hv i hi
      obtain ⟨b, hb, hw⟩ := trod_float he hy
      injection hb with hb
      exact ⟨b, fun _ => hb, hw⟩
    · exact ⟨0, fun h => absurd h hi, by cases k <;> decide⟩
  refine ⟨A, n, cap, fun i => (key i).choose, e1, e2, e3, fun hn => ?_, fun i => (key i).choose_spec.2⟩
  obtain ⟨b, o, ea, hc⟩ := hr hn
  exact ⟨b, o, ea, fun i hi => by rw [hc i hi, (key i).choose_spec.1 hi]⟩

theorem op_ints {t e : TypeId} {k : IntKind} {fuel : Nat} {cs : List Value} {x : DataW H × List MemPlace} (ht : P.underlying t = some (.slice e)) (he : P.underlying e = some (.int k)) (hc : P.cellsOf e = 1) (h : DataW.trod enc P w base spare held fuel t cs = some x) :
    ∃ (A : Option Addr) (n cap : Nat) (z : Nat → Int), cs = [.slice A n cap] ∧ n ≤ cap ∧ cap ≤ maxLen ∧ Rd w A n (fun i => .int k (z i)) ∧ (∀ i, (Lit.int k (z i)).wf = true) := by
  obtain ⟨A, n, cap, m, V, e1, e2, e3, hr, hv⟩ := op_slice ht hc h
  have key : ∀ i, ∃ b, (i < n → V i = .int k b) ∧ (Lit.int k b).wf = true := fun i => by
    by_cases hi : i < n
    · obtain ⟨y, hy⟩ := hv i hi
      obtain ⟨b, hb, -, hw⟩ := DataW.trod_int he hy
      injection hb with hb
      exact ⟨b, fun _ => hb, hw⟩
    · exact ⟨0, fun h => absurd h hi, by cases k <;> decide⟩
  refine ⟨A, n, cap, fun i => (key i).choose, e1, e2, e3, fun hn => ?_, fun i => (key i).choose_spec.2⟩
  obtain ⟨b, o, ea, hc⟩ := hr hn
  exact ⟨b, o, ea, fun i hi => by rw [hc i hi, (key i).choose_spec.1 hi]⟩

theorem kept_same {W W' : World} (h : Kept None' W W') {p : MemPlace} (hp : p.block < W.heap.size) : W.sameAt W' p := by
  cases p with
  | cell b o => exact World.cell?_of_block (w := W) (h.block b hp id)
  | map b => exact h.block b hp id
/-- An argument, whatever its type, reads as it did. -/
theorem kept_trod {t : TypeId} (hl : laidOutB P = true) (hr : P.readableRec t = true) (hrow : t < P.types.size) {W W' : World} {v : Value} {d : DataW H} {ps : List MemPlace}
    (h : DataW.Trod enc P W 0 (fun _ => true) true t v d ps) (hb : Kept None' W W') (hlt : ∀ x ∈ ps, x.block < W.heap.size) :
    DataW.Trod enc P W' 0 (fun b => decide (b < W.heap.size)) true t v d ps :=
  WideElems.Trod_stays hl hr hrow h (fun x hx => kept_same hb (hlt x hx)) (fun x hx => by simpa using hlt x hx)

theorem one_cell {r : Reach} {b0 : Nat} {t e : TypeId} {v u : Value} (ht : P.underlying t = some (.slice e)) (hv : Value.okWide P w r b0 t v) (h : v.cells.toList = [u]) : v = u := by
  cases v with
  | agg cs => simp [Value.okWide, ht, Cell.okWide, Cell.ok] at hv
  | _ => simpa [Value.cells] using h
theorem agg_cells {v : Value} {n : Nat} (hn : n ≠ 1) (h : v.cells.toList.length = n) : ∃ cs, v = .agg ⟨cs⟩ ∧ cs.length = n := by
  cases v with
  | agg cs => exact ⟨cs.toList, rfl, h⟩
  | _ => exact absurd h (fun e => hn (by simpa [Value.cells] using e.symm))

theorem op_px {t e : TypeId} {k : FloatKind} {v : Value} {d : DataW H} {p : List MemPlace} (ht : P.underlying t = some (.array 4 e)) (he : P.underlying e = some (.float k)) (hce : P.cellsOf e = 1) (hct : P.cellsOf t = 4)
    (h : DataW.Trod enc P w base spare held t v d p) : ∃ b0 b1 b2 b3, v = .agg #[.float k b0, .float k b1, .float k b2, .float k b3] ∧ (Lit.float k b0).wf = true ∧ (Lit.float k b1).wf = true ∧ (Lit.float k b2).wf = true ∧ (Lit.float k b3).wf = true := by
  obtain ⟨fuel, hf⟩ := h
  obtain ⟨_, _, _, _, hl, _, _⟩ := DataW.trod_array ht hf
  obtain ⟨cs, rfl, hcs⟩ := agg_cells (n := 4) (by decide) (hl.trans hct)
  match cs, hcs with
  | [c0, c1, c2, c3], _ =>
    obtain ⟨y0, y1, y2, y3, n, -, h0, h1, h2, h3⟩ := Go.ChangeShapes.trod_array4 ht hce hf
    obtain ⟨b0, e0, w0⟩ := trod_float he h0
    obtain ⟨b1, e1, w1⟩ := trod_float he h1
    obtain ⟨b2, e2, w2⟩ := trod_float he h2
    obtain ⟨b3, e3, w3⟩ := trod_float he h3
    injection e0 with e0; injection e1 with e1; injection e2 with e2; injection e3 with e3
    subst e0 e1 e2 e3
    exact ⟨b0, b1, b2, b3, rfl, w0, w1, w2, w3⟩

theorem op_region' {t e : TypeId} {k : IntKind} {f0 f1 f2 f3 : Field} {fuel : Nat} {cs : List Value} {x : DataW H × List MemPlace} (ht : P.underlying t = some (.struct #[f0, f1, f2, f3])) (hct : P.cellsOf t = 4)
    (ho : f0.offset = 0 ∧ f1.offset = 1 ∧ f2.offset = 2 ∧ f3.offset = 3) (hy : f0.type = e ∧ f1.type = e ∧ f2.type = e ∧ f3.type = e) (he : P.underlying e = some (.int k)) (hce : P.cellsOf e = 1)
    (h : DataW.trod enc P w base spare held fuel t cs = some x) : ∃ b0 b1 b2 b3, cs = [.int k b0, .int k b1, .int k b2, .int k b3] ∧ (Lit.int k b0).wf = true ∧ (Lit.int k b1).wf = true ∧ (Lit.int k b2).wf = true ∧ (Lit.int k b3).wf = true := by
  obtain ⟨y0, y1, y2, y3, n, -, hl, h0, h1, h2, h3⟩ := Go.Joins.trod_struct4 ht h
  obtain ⟨o0, o1, o2, o3⟩ := ho
  obtain ⟨t0, t1, t2, t3⟩ := hy
  rw [o0, t0, hce] at h0
  rw [o1, t1, hce] at h1
  rw [o2, t2, hce] at h2
  rw [o3, t3, hce] at h3
  match cs, hl.trans hct with
  | [c0, c1, c2, c3], _ =>
    obtain ⟨b0, e0, -, w0⟩ := DataW.trod_int he h0
    obtain ⟨b1, e1, -, w1⟩ := DataW.trod_int he h1
    obtain ⟨b2, e2, -, w2⟩ := DataW.trod_int he h2
    obtain ⟨b3, e3, -, w3⟩ := DataW.trod_int he h3
    have q0 : c0 = .int k b0 := by simpa using e0
    have q1 : c1 = .int k b1 := by simpa using e1
    have q2 : c2 = .int k b2 := by simpa using e2
    have q3 : c3 = .int k b3 := by simpa using e3
    subst q0 q1 q2 q3
    exact ⟨b0, b1, b2, b3, rfl, w0, w1, w2, w3⟩

theorem op_region {t e : TypeId} {k : IntKind} {f0 f1 f2 f3 : Field} {v : Value} {d : DataW H} {p : List MemPlace} (ht : P.underlying t = some (.struct #[f0, f1, f2, f3])) (hct : P.cellsOf t = 4)
    (ho : f0.offset = 0 ∧ f1.offset = 1 ∧ f2.offset = 2 ∧ f3.offset = 3) (hy : f0.type = e ∧ f1.type = e ∧ f2.type = e ∧ f3.type = e) (he : P.underlying e = some (.int k)) (hce : P.cellsOf e = 1)
    (h : DataW.Trod enc P w base spare held t v d p) : ∃ b0 b1 b2 b3, v = .agg #[.int k b0, .int k b1, .int k b2, .int k b3] ∧ (Lit.int k b0).wf = true ∧ (Lit.int k b1).wf = true ∧ (Lit.int k b2).wf = true ∧ (Lit.int k b3).wf = true := by
  obtain ⟨fuel, hf⟩ := h
  obtain ⟨b0, b1, b2, b3, hc, w0, w1, w2, w3⟩ := op_region' ht hct ho hy he hce hf
  obtain ⟨cs, rfl, hcs⟩ := agg_cells (n := 4) (by decide) (by rw [hc]; rfl)
  have hc : cs = _ := hc
  subst hc
  exact ⟨b0, b1, b2, b3, rfl, w0, w1, w2, w3⟩

theorem op_frame {t tr ts te ti : TypeId} {g0 g1 f0 f1 f2 f3 : Field} {v : Value} {d : DataW H} {p : List MemPlace} (ht : P.underlying t = some (.struct #[g0, g1])) (hct : P.cellsOf t = 5)
    (hg : g0.offset = 0 ∧ g1.offset = 4) (hgy : g0.type = tr ∧ g1.type = ts) (hr : P.underlying tr = some (.struct #[f0, f1, f2, f3])) (hcr : P.cellsOf tr = 4)
    (ho : f0.offset = 0 ∧ f1.offset = 1 ∧ f2.offset = 2 ∧ f3.offset = 3) (hy : f0.type = ti ∧ f1.type = ti ∧ f2.type = ti ∧ f3.type = ti) (hi : P.underlying ti = some (.int .i64)) (hci : P.cellsOf ti = 1)
    (hs : P.underlying ts = some (.slice te)) (hcs : P.cellsOf ts = 1) (he : P.underlying te = some (.float .f32)) (hce : P.cellsOf te = 1)
    (h : DataW.Trod enc P w base spare held t v d p) : ∃ (x y W H : Int) (A : Option Addr) (n cap : Nat) (z : Nat → Nat), v = .agg #[.int .i64 x, .int .i64 y, .int .i64 W, .int .i64 H, .slice A n cap] ∧
      (Lit.int .i64 x).wf = true ∧ (Lit.int .i64 y).wf = true ∧ (Lit.int .i64 W).wf = true ∧ (Lit.int .i64 H).wf = true ∧ n ≤ cap ∧ cap ≤ maxLen ∧ Rd w A n (fun i => .float .f32 (z i)) ∧ (∀ i, (Lit.float .f32 (z i)).wf = true) := by
  obtain ⟨fuel, hf⟩ := h
  obtain ⟨xs, m, -, -, hl, hxs, hx⟩ := DataW.trod_struct ht hf
  obtain ⟨cs, rfl, hlen⟩ := agg_cells (n := 5) (by decide) (hl.trans hct)
  have h0 := hx 0 g0 rfl
  have h1 := hx 1 g1 rfl
  rw [hg.1, hgy.1, hcr] at h0
  rw [hg.2, hgy.2, hcs] at h1
  match cs, hlen with
  | [c0, c1, c2, c3, c4], _ =>
    match xs, hxs with
    | [y0, y1], _ =>
      have h0 : DataW.trod enc P w base spare held m tr [c0, c1, c2, c3] = some y0 := h0
      have h1 : DataW.trod enc P w base spare held m ts [c4] = some y1 := h1
      obtain ⟨b0, b1, b2, b3, hc, w0, w1, w2, w3⟩ := op_region' hr hcr ho hy hi hci h0
      obtain ⟨A, n, cap, z, hc4, k1, k2, k3, k4⟩ := op_floats hs he hce h1
      injection hc with q0 hc; injection hc with q1 hc; injection hc with q2 hc; injection hc with q3 hc
      injection hc4 with q4 _
      subst q0 q1 q2 q3 q4
      exact ⟨b0, b1, b2, b3, A, n, cap, z, rfl, w0, w1, w2, w3, k1, k2, k3, k4⟩

theorem kept_trodAll (hl : laidOutB P = true) {W W' : World} (hb : Kept None' W W') {sp : Nat → Bool} : ∀ {ts : List TypeId} {vs : List Value} {ds : List (DataW H)} {ps : List MemPlace}, (∀ t ∈ ts, P.readableRec t = true ∧ t < P.types.size) →
    DataW.TrodAll enc P W 0 (fun _ => true) true ts vs ds ps → (∀ x ∈ ps, x.block < W.heap.size) → (∀ x ∈ ps, sp x.block = true) → DataW.TrodAll enc P W' 0 sp true ts vs ds ps
  | [], vs, ds, ps, _, h, _, _ => by
    obtain ⟨rfl, rfl, rfl⟩ := trodAll_nil h
    exact trodAll_mk0
  | t :: ts, vs, ds, ps, ht, h, hlt, hsp => by
    obtain ⟨v, vs', d, ds', p, q, rfl, rfl, rfl, hd, hrest⟩ := trodAll_cons h
    refine trodAll_cons_mk ?_ (kept_trodAll hl hb (fun t' h' => ht t' (List.mem_cons_of_mem _ h')) hrest (fun x hx => hlt x (List.mem_append_right _ hx)) (fun x hx => hsp x (List.mem_append_right _ hx)))
    exact WideElems.Trod_stays hl (ht t List.mem_cons_self).1 (ht t List.mem_cons_self).2 hd (fun x hx => kept_same hb (hlt x (List.mem_append_left _ hx))) (fun x hx => hsp x (List.mem_append_left _ hx))
end
end Go.Proofs.Ytflmfjimemhooaa
