/- 'Kept A w w'': of what was there when w stood nothing has turned but the blocks of A; new blocks may stand behind. Conditions: none. -/
import Derived.Test.YtflmfjimemhooaaNw
import Derived.Below
namespace Go.Proofs.Ytflmfjimemhooaa
open Go.RowKit
open Fl

@[go_sem] theorem run_store_float {P : Program} {w : World} {a : Addr} {m : Mode} (k : FloatKind) (b : Nat) : (store a (.float k b) m).run P w = stored P w a (.float k b) m := run_store P w a _ m rfl

structure Kept (A : Nat → Prop) (w w' : World) : Prop where
  os : w'.os = w.os
  output : w'.output = w.output
  size : w.heap.size ≤ w'.heap.size
  frozen : ∀ a, w'.frozen? a = w.frozen? a
  block : ∀ i, i < w.heap.size → ¬ A i → w'.heap[i]? = w.heap[i]?

def None' : Nat → Prop := fun _ => False

theorem Kept.refl (A : Nat → Prop) (w : World) : Kept A w w := ⟨rfl, rfl, Nat.le_refl _, fun _ => rfl, fun _ _ _ => rfl⟩
theorem Kept.trans {A : Nat → Prop} {a b c : World} (h : Kept A a b) (k : Kept A b c) : Kept A a c :=
  ⟨k.os.trans h.os, k.output.trans h.output, Nat.le_trans h.size k.size, fun x => (k.frozen x).trans (h.frozen x), fun i hi hA => (k.block i (Nat.lt_of_lt_of_le hi h.size) hA).trans (h.block i hi hA)⟩
theorem Kept.mono {A B : Nat → Prop} {a b : World} (h : Kept A a b) (hAB : ∀ i, i < a.heap.size → A i → B i) : Kept B a b :=
  ⟨h.os, h.output, h.size, h.frozen, fun i hi hB => h.block i hi (fun hA => hB (hAB i hi hA))⟩
theorem Kept.drew {A : Nat → Prop} {a b : World} (h : Kept A a b) (n : Nat) : Kept A a (b.drewN n) := ⟨h.os, h.output, h.size, h.frozen, h.block⟩
theorem Kept.alloc {A : Nat → Prop} {a b : World} (h : Kept A a b) (c : Array Value) (t : TypeId) : Kept A a (b.alloc (.cells c t)) :=
  ⟨h.os, h.output, Nat.le_trans h.size (by show b.heap.size ≤ (b.heap.push _).size; simp), fun x => (frozen?_alloc_cells _ _ _ x).trans (h.frozen x),
   fun i hi hA => (Below.heap_alloc b _ i (Nat.lt_of_lt_of_le hi h.size)).trans (h.block i hi hA)⟩
theorem Kept.setCell {A : Nat → Prop} {a b : World} (h : Kept A a b) {p : Addr} (hp : a.heap.size ≤ p.block ∨ A p.block) (u : Value) : Kept A a (b.setCell p u) :=
  ⟨h.os, h.output, by simpa [World.setCell] using h.size, fun x => (World.frozen?_setCell ..).trans (h.frozen x), fun i hi hA => by
    refine (Below.heap_setCell _ _ _ _ ?_).trans (h.block i hi hA)
    intro e
    subst e
    cases hp with
    | inl g => omega
    | inr g => exact hA g⟩
theorem Kept.cell {A : Nat → Prop} {w w' : World} (h : Kept A w w') {p : Addr} (hp : p.block < w.heap.size) (hA : ¬ A p.block) : w'.cell? p = w.cell? p := World.cell?_of_block (w := w) (h.block p.block hp hA)
theorem Kept.of_grown {w w' : World} (h : Grown w w') (A : Nat → Prop) : Kept A w w' := by
  obtain ⟨⟨h1, h2, h3⟩, h4, h5⟩ := h
  refine ⟨h1, h2, h5, h4, fun i hi _ => ?_⟩
  have h6 := h3 i hi
  have hs : w.heap[i]? = some w.heap[i] := by simp [hi]
  have hs' : w'.heap[i]? = some (w'.heap[i]'(by omega)) := by simp [show i < w'.heap.size by omega]
  rw [hs, hs'] at h6
  rw [hs, hs']
  revert h6
  generalize w.heap[i] = o
  generalize w'.heap[i]'_ = o'
  intro h6
  split at h6
  · rename_i c t fr c' t' fr' e1 e2
    injection e1 with e1; injection e2 with e2
    obtain ⟨ha, hb, hc, hd⟩ := h6
    subst ha hb
    have : c' = c := Array.ext_getElem? (fun j => hd j (fun x => x))
    rw [e1, e2, this]
  · rename_i es cl es' cl' e1 e2
    injection e1 with e1; injection e2 with e2
    cases h6 with
    | inl f => exact f.elim
    | inr g => obtain ⟨g1, g2⟩ := g; rw [e1, e2, g1, g2]
  · exact h6
theorem Kept.grown {w w' : World} {A : Nat → Prop} (h : Kept A w w') (hA : ∀ i, i < w.heap.size → ¬ A i) : Grown w w' := by
  refine ⟨⟨h.os, h.output, fun i hi => ?_⟩, h.frozen, h.size⟩
  rw [h.block i hi (hA i hi)]
  split <;> simp_all
theorem Kept.toGrown {w w' : World} (h : Kept None' w w') : Grown w w' := h.grown (fun _ _ x => x)
theorem grown_kept {w w' : World} (h : Grown w w') : Kept None' w w' := Kept.of_grown h _
theorem grown_cell {w w' : World} (h : Grown w w') {p : Addr} (hp : p.block < w.heap.size) : w'.cell? p = w.cell? p := (grown_kept h).cell hp (fun x => x)
theorem cell_lt {w : World} {p : Addr} {v : Value} (h : w.cell? p = some v) : p.block < w.heap.size := by
  by_cases hl : p.block < w.heap.size
  · exact hl
  · have : w.heap[p.block]? = none := by simp; omega
    simp [World.cell?, this] at h
theorem grown_cell_some {w w' : World} (h : Grown w w') {p : Addr} {v : Value} (hp : w.cell? p = some v) : w'.cell? p = some v := (grown_cell h (cell_lt hp)).trans hp
theorem cell_alloc_two (w : World) (c c' : Array Value) (t t' : TypeId) (j : Nat) : ((w.alloc (.cells c t)).alloc (.cells c' t')).cell? ⟨w.heap.size, j, none⟩ = c[j]? := by
  have h : ((w.alloc (.cells c t)).alloc (.cells c' t')).cell? ⟨w.heap.size, j, none⟩ = (w.alloc (.cells c t)).cell? ⟨w.heap.size, j, none⟩ :=
    World.cell?_of_block (w := w.alloc (.cells c t)) (Below.heap_alloc _ _ _ (by simp))
  rw [h, World.cell?_alloc_new]
theorem frozen_new (w : World) (p : Addr) (hp : w.heap.size ≤ p.block) : w.frozen? p = false := by
  have : w.heap[p.block]? = none := by simp; omega
  simp [World.frozen?, this]
theorem Kept.some {A : Nat → Prop} {w w' : World} (h : Kept A w w') {p : Addr} {v : Value} (hp : w.cell? p = some v) (hA : ¬ A p.block) : w'.cell? p = some v := (h.cell (cell_lt hp) hA).trans hp
theorem cell_alloc_one (w : World) (c : Array Value) (t : TypeId) (j : Nat) : (w.alloc (.cells c t)).cell? ⟨w.heap.size, j, none⟩ = c[j]? := World.cell?_alloc_new ..
theorem cell_alloc_snd (w : World) (c : Array Value) (t : TypeId) (o : Obj) (j : Nat) : ((w.alloc o).alloc (.cells c t)).cell? ⟨w.heap.size + 1, j, none⟩ = c[j]? := by
  have h := World.cell?_alloc_new (w := w.alloc o) c t j
  rw [World.size_alloc] at h
  exact h
theorem cell_set_eq {w : World} {a : Addr} {v u : Value} (h : w.cell? a = some u) : (w.setCell a v).cell? a = some v := World.cell?_setCell_same _ _ _ h
theorem cell_set_ne {w : World} {B C j k : Nat} {v u : Value} (h : w.cell? ⟨C, k, none⟩ = some u) (hn : B ≠ C ∨ j ≠ k) : (w.setCell ⟨B, j, none⟩ v).cell? ⟨C, k, none⟩ = some u :=
  (World.cell?_setCell_other _ _ _ _ (by intro e; injection e with e1 e2; cases hn with
    | inl h => exact h e1
    | inr h => exact h e2)).trans h
end Go.Proofs.Ytflmfjimemhooaa
