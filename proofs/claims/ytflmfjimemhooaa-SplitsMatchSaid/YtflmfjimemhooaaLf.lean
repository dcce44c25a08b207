/- The contract of finish.Frame. Conditions: none. -/
import Derived.Test.YtflmfjimemhooaaRg
import Derived.Test.YtflmfjimemhooaaRo
import Derived.Test.YtflmfjimemhooaaVa
import Derived.Deep.DeepCutAuto
import Derived.RegionTactic
import Derived.Outline
import Derived.Deep.OwnRows
namespace Go.Proofs.Ytflmfjimemhooaa
open Go.RowKit
open Fl
open BigFrame

def okTo (z : Nat → Int) (M : Int) : Nat → Bool
  | 0 => true
  | k + 1 => okTo z M k && inB (z k) 0 M
theorem okTo_false {z : Nat → Int} {M : Int} {k n : Nat} (h : okTo z M k = false) (hk : k ≤ n) : okTo z M n = false := by
  induction n with
  | zero => have : k = 0 := by omega
            subst this; exact h
  | succ n ih =>
    by_cases e : k = n + 1
    · subst e; exact h
    · simp [okTo, ih (by omega)]

theorem fr_ret2 {fn : Func} {t u : Tmp} (hr : fn.results = #[.cell t 26, .tmp u]) (W : World) (tmps : Array Value) (B : Nat) (v0 v1 v2 v3 v4 : Value) (h : W.cell? ⟨B, 0, none⟩ = some v0 ∧ W.cell? ⟨B, 1, none⟩ = some v1 ∧ W.cell? ⟨B, 2, none⟩ = some v2 ∧ W.cell? ⟨B, 3, none⟩ = some v3 ∧ W.cell? ⟨B, 4, none⟩ = some v4)
    (ht : tmps[t]?.getD undef = .pointer (some ⟨B, 0, none⟩)) : (results fn tmps).run Try.prog W = .ok (.tuple #[.agg #[v0, v1, v2, v3, v4], tmps.getD u undef]) W := by
  obtain ⟨e0, e1, e2, e3, e4⟩ := h
  simp [results, hr, go_sem, ht, e0, e1, e2, e3, e4]
  try rfl
theorem cells_set5 {W : World} {B : Nat} {v0 v1 v2 v3 v4 u0 u1 u2 u3 u4 : Value} (r0 : W.cell? ⟨B, 0, none⟩ = some u0) (r1 : W.cell? ⟨B, 1, none⟩ = some u1) (r2 : W.cell? ⟨B, 2, none⟩ = some u2) (r3 : W.cell? ⟨B, 3, none⟩ = some u3) (r4 : W.cell? ⟨B, 4, none⟩ = some u4) :
    let X := (((((W.setCell ⟨B, 0, none⟩ v0).setCell ⟨B, 1, none⟩ v1).setCell ⟨B, 2, none⟩ v2).setCell ⟨B, 3, none⟩ v3).setCell ⟨B, 4, none⟩ v4)
    X.cell? ⟨B, 0, none⟩ = some v0 ∧ X.cell? ⟨B, 1, none⟩ = some v1 ∧ X.cell? ⟨B, 2, none⟩ = some v2 ∧ X.cell? ⟨B, 3, none⟩ = some v3 ∧ X.cell? ⟨B, 4, none⟩ = some v4 := by
  refine ⟨?_, ?_, ?_, ?_, ?_⟩
  · exact cell_set_ne (cell_set_ne (cell_set_ne (cell_set_ne (cell_set_eq r0) (by omega)) (by omega)) (by omega)) (by omega)
  · exact cell_set_ne (cell_set_ne (cell_set_ne (cell_set_eq (cell_set_ne r1 (by omega))) (by omega)) (by omega)) (by omega)
  · exact cell_set_ne (cell_set_ne (cell_set_eq (cell_set_ne (cell_set_ne r2 (by omega)) (by omega))) (by omega)) (by omega)
  · exact cell_set_ne (cell_set_eq (cell_set_ne (cell_set_ne (cell_set_ne r3 (by omega)) (by omega)) (by omega))) (by omega)
  · exact cell_set_eq (cell_set_ne (cell_set_ne (cell_set_ne (cell_set_ne r4 (by omega)) (by omega)) (by omega)) (by omega))
theorem kept_set5 {w W : World} {B : Nat} {v0 v1 v2 v3 v4 : Value} (h : Kept None' w W) (hB : w.heap.size ≤ B) : Kept None' w (((((W.setCell ⟨B, 0, none⟩ v0).setCell ⟨B, 1, none⟩ v1).setCell ⟨B, 2, none⟩ v2).setCell ⟨B, 3, none⟩ v3).setCell ⟨B, 4, none⟩ v4) := by
  refine Kept.setCell (Kept.setCell (Kept.setCell (Kept.setCell (Kept.setCell h ?_ _) ?_ _) ?_ _) ?_ _) ?_ _ <;> exact Or.inl hB

theorem dec_cas {a M : Int} (h : a < 0 ∨ M < a) (d : decide (a < 0) = false) : decide (M < a) = true := by simp at d ⊢; omega
theorem dec_in {a M : Int} (h : inB a 0 M = true) : (0 ≤ a ∧ a ≤ M) ∧ decide (a < 0) = false ∧ decide (M < a) = false := by
  obtain ⟨h1, h2⟩ := inB_iff.1 h
  exact ⟨⟨h1, h2⟩, by simp; omega, by simp; omega⟩
theorem cas_of {a M : Int} (h : inB a 0 M = false) : a < 0 ∨ M < a := by
  rcases Int.lt_or_le a 0 with h1 | h1
  · exact Or.inl h1
  · rcases Int.lt_or_le M a with h' | h'
    · exact Or.inr h'
    · rw [inB_yes h1 h'] at h; cases h

/-- The frame that is made, k levels through. -/
structure FrS (w : World) (F B n : Nat) (x y W H : Int) (g : Nat → Nat) (wr : World) : Prop where
  kept : Kept None' w wr
  lF : w.heap.size ≤ F
  lB : w.heap.size ≤ B
  ne : F ≠ B
  c0 : wr.cell? ⟨F, 0, none⟩ = some (.int .i64 x)
  c1 : wr.cell? ⟨F, 1, none⟩ = some (.int .i64 y)
  c2 : wr.cell? ⟨F, 2, none⟩ = some (.int .i64 W)
  c3 : wr.cell? ⟨F, 3, none⟩ = some (.int .i64 H)
  c4 : wr.cell? ⟨F, 4, none⟩ = some (.slice (some ⟨B, 0, none⟩) n n)
  fz : ∀ a : Addr, w.heap.size ≤ a.block → wr.frozen? a = false
  cell : ∀ j, j < n → wr.cell? ⟨B, j, none⟩ = some (.float .f32 (g j))

theorem FrS.set {w : World} {F B n : Nat} {x y W H : Int} {g g' : Nat → Nat} {wr wr' : World} (h : FrS w F B n x y W H g wr) (hk : Kept None' wr wr') {k v : Nat} (hk1 : k < n) (hg : ∀ j, j < n → g' j = if j = k then v else g j) :
    FrS w F B n x y W H g' (wr'.setCell ⟨B, k, none⟩ (.float .f32 v)) := by
  have hne : B ≠ F := fun e => h.ne e.symm
  refine ⟨(h.kept.trans hk).setCell (Or.inl h.lB) _, h.lF, h.lB, h.ne, ?_, ?_, ?_, ?_, ?_, fun a ha => ?_, fun j hj => ?_⟩
  · exact cell_set_ne (hk.some h.c0 id) (Or.inl hne)
  · exact cell_set_ne (hk.some h.c1 id) (Or.inl hne)
  · exact cell_set_ne (hk.some h.c2 id) (Or.inl hne)
  · exact cell_set_ne (hk.some h.c3 id) (Or.inl hne)
  · exact cell_set_ne (hk.some h.c4 id) (Or.inl hne)
  · exact (World.frozen?_setCell ..).trans ((hk.frozen a).trans (h.fz a ha))
  · rw [hg j hj]
    by_cases e : j = k
    · subst e; rw [if_pos rfl]; exact cell_set_eq (hk.some (h.cell j hj) id)
    · rw [if_neg e]; exact cell_set_ne (hk.some (h.cell j hj) id) (Or.inr (fun h => e h.symm))

theorem made_at (n j : Nat) (v : Value) (h : j < n) : (madeCells #[v] n)[j]? = some v := by simp [madeCells, h, Nat.mod_one]
theorem FrS.mk1 {w w1 : World} (hk : Kept None' w w1) (hz : ∀ a : Addr, w.heap.size ≤ a.block → w1.frozen? a = false) (n : Nat) (x y W H : Int) (t u : TypeId) : FrS w (w1.heap.size + 1) w1.heap.size n x y W H (fun _ => 0)
    ((w1.alloc (.cells (madeCells #[.float .f32 0] n) t)).alloc (.cells #[.int .i64 x, .int .i64 y, .int .i64 W, .int .i64 H, .slice (some ⟨w1.heap.size, 0, none⟩) n n] u)).drew := by
  have hs := hk.size
  refine ⟨((hk.alloc _ _).alloc _ _).drew 1, by omega, by omega, by omega, ?_, ?_, ?_, ?_, ?_, fun a ha => ?_, fun j hj => ?_⟩
  · exact cell_alloc_snd w1 _ _ _ 0
  · exact cell_alloc_snd w1 _ _ _ 1
  · exact cell_alloc_snd w1 _ _ _ 2
  · exact cell_alloc_snd w1 _ _ _ 3
  · exact cell_alloc_snd w1 _ _ _ 4
  · exact (frozen?_alloc_cells _ _ _ _).trans ((frozen?_alloc_cells _ _ _ _).trans (hz a ha))
  · exact (cell_alloc_two w1 _ _ _ _ j).trans (made_at n j _ hj)
theorem FrS.mk2 {w w1 : World} (hk : Kept None' w w1) (hz : ∀ a : Addr, w.heap.size ≤ a.block → w1.frozen? a = false) (n : Nat) (x y W H : Int) (t u : TypeId) : FrS w w1.heap.size (w1.heap.size + 1) n x y W H (fun _ => 0)
    ((w1.alloc (.cells #[.int .i64 x, .int .i64 y, .int .i64 W, .int .i64 H, .slice (some ⟨w1.heap.size + 1, 0, none⟩) n n] u)).alloc (.cells (madeCells #[.float .f32 0] n) t)).drew := by
  have hs := hk.size
  refine ⟨((hk.alloc _ _).alloc _ _).drew 1, by omega, by omega, by omega, ?_, ?_, ?_, ?_, ?_, fun a ha => ?_, fun j hj => ?_⟩
  · exact cell_alloc_two w1 _ _ _ _ 0
  · exact cell_alloc_two w1 _ _ _ _ 1
  · exact cell_alloc_two w1 _ _ _ _ 2
  · exact cell_alloc_two w1 _ _ _ _ 3
  · exact cell_alloc_two w1 _ _ _ _ 4
  · exact (frozen?_alloc_cells _ _ _ _).trans ((frozen?_alloc_cells _ _ _ _).trans (hz a ha))
  · exact (cell_alloc_snd w1 _ _ _ j).trans (made_at n j _ hj)
theorem FrS.step {w : World} {F B n : Nat} {x y W H : Int} {g : Nat → Nat} {wr wr' : World} (h : FrS w F B n x y W H g wr) (hk : Kept None' wr wr') : FrS w F B n x y W H g wr' :=
  ⟨h.kept.trans hk, h.lF, h.lB, h.ne, hk.some h.c0 id, hk.some h.c1 id, hk.some h.c2 id, hk.some h.c3 id, hk.some h.c4 id, fun a ha => (hk.frozen a).trans (h.fz a ha), fun j hj => hk.some (h.cell j hj) id⟩

def zeroFrame : Value := .agg #[.int .i64 0, .int .i64 0, .int .i64 0, .int .i64 0, .slice none 0 0]
def FrPost (x y W H : Int) (n : Nat) (z : Nat → Int) (M : Int) (w : World) (e : Ending) (w' : World) : Prop :=
  Kept None' w w' ∧ ((okTo z M n = true ∧ ∃ B, w.heap.size ≤ B ∧ e = .returned (.tuple #[.agg #[.int .i64 x, .int .i64 y, .int .i64 W, .int .i64 H, .slice (some ⟨B, 0, none⟩) n n], .int .i64 0]) ∧ ∀ j, j < n → w'.cell? ⟨B, j, none⟩ = some (.float .f32 (valP (z j) M))) ∨
    (okTo z M n = false ∧ e = .returned (.tuple #[zeroFrame, .int .i64 3])))

end Go.Proofs.Ytflmfjimemhooaa
