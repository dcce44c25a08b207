/- What Diffuse computes, step by step: plain facts. Conditions: none. -/
import Derived.Test.YtfphhlodfieopaaDg
namespace Go.Proofs.Ytfphhlodfieopaa
open Go.RowKit
open Fl Fr
open BigFrame

/-- What is given on from channel c of the pixel at x, y. -/
def dfG (W H M : Int) (z : Nat → Nat) (x y : Int) (k c : Nat) (q : Nat → Nat) : Nat → Nat :=
  gv W H x y c (dfE M (fC .add .f32 (z k) (q k))) 1 1 1065353216 (gv W H x y c (dfE M (fC .add .f32 (z k) (q k))) 0 1 1084227584 (gv W H x y c (dfE M (fC .add .f32 (z k) (q k))) (-1) 1 1077936128 (gv W H x y c (dfE M (fC .add .f32 (z k) (q k))) 1 0 1088421888 q)))
/-- What has been given when t channels are through. -/
def gSt (W H M : Int) (z : Nat → Nat) : Nat → Nat → Nat
  | 0 => fun _ => 0
  | t + 1 => dfG W H M z ((t / 3 : Nat) % W) ((t / 3 : Nat) / W) (4 * (t / 3) + t % 3) (t % 3) (gSt W H M z t)
/-- The level at k. -/
def dfO (W H M : Int) (z : Nat → Nat) (k : Nat) : Int := if k % 4 = 3 then levelP (z k) 0 M else levelP (fC .add .f32 (z k) (gSt W H M z (3 * (k / 4) + k % 4) k)) 0 M
theorem gSt_succ (W : Nat) (H M : Int) (z : Nat → Nat) (X Y c : Nat) (hX : X < W) (hc : c < 3) :
    gSt W H M z (3 * (Y * W + X) + (c + 1)) = dfG W H M z X Y (4 * (Y * W + X) + c) c (gSt W H M z (3 * (Y * W + X) + c)) := by
  have e : 3 * (Y * W + X) + (c + 1) = (3 * (Y * W + X) + c) + 1 := by omega
  rw [e]
  show dfG _ _ _ _ _ _ _ _ _ = _
  have e1 : (3 * (Y * W + X) + c) / 3 = Y * W + X := by omega
  have e2 : (3 * (Y * W + X) + c) % 3 = c := by omega
  rw [e1, e2]
  have e3 : (((Y * W + X : Nat) : Int)) % (W : Int) = X := by
    rw [← Int.natCast_emod, Nat.add_comm, Nat.add_mul_mod_self_right, Nat.mod_eq_of_lt hX]
  have e4 : (((Y * W + X : Nat) : Int)) / (W : Int) = Y := by
    rw [← Int.natCast_ediv, Nat.add_comm, Nat.add_mul_div_right _ _ (by omega), Nat.div_eq_of_lt hX, Nat.zero_add]
  rw [e3, e4]
theorem dfO_c (W : Nat) (H M : Int) (z : Nat → Nat) (p c : Nat) (hc : c < 3) : dfO W H M z (4 * p + c) = levelP (fC .add .f32 (z (4 * p + c)) (gSt W H M z (3 * p + c) (4 * p + c))) 0 M := by
  unfold dfO
  have e1 : (4 * p + c) / 4 = p := by omega
  have e2 : (4 * p + c) % 4 = c := by omega
  rw [e1, e2, if_neg (by omega)]
theorem dfO_3 (W H M : Int) (z : Nat → Nat) (p : Nat) : dfO W H M z (4 * p + 3) = levelP (z (4 * p + 3)) 0 M := by
  unfold dfO
  rw [if_pos (by omega)]
theorem dfO_bd (W H M : Int) (z : Nat → Nat) (k : Nat) (h0 : 0 ≤ M) (h2 : M ≤ 16777216) : 0 ≤ dfO W H M z k ∧ dfO W H M z k ≤ M := by
  unfold dfO
  split
  · exact level_bd _ _ _ h0 h2
  · exact level_bd _ _ _ h0 h2
theorem px_lt {W H X Y : Nat} (hX : X < W) (hY : Y < H) : Y * W + X < W * H := by
  have h1 : (Y + 1) * W ≤ H * W := Nat.mul_le_mul_right W hY
  rw [Nat.succ_mul] at h1
  rw [Nat.mul_comm W H]
  omega

/-- The blocks that the loops write. -/
def BG (B G : Nat) : Nat → Prop := fun i => i = B ∨ i = G
theorem Kept.bg {B G : Nat} {a b : World} (h : Kept None' a b) : Kept (BG B G) a b := h.mono (fun _ _ x => x.elim)
theorem Kept.bgG {B G : Nat} {a b : World} (h : Kept (fun i => i = G) a b) : Kept (BG B G) a b := h.mono (fun _ _ x => Or.inr x)
theorem keptBG {B G : Nat} {w w' : World} (h : Kept (BG B G) w w') {b o : Nat} {v : Value} (hp : w.cell? ⟨b, o, none⟩ = some v) (h1 : b ≠ B) (h2 : b ≠ G) : w'.cell? ⟨b, o, none⟩ = some v :=
  h.some hp (fun x => x.elim h1 h2)
theorem Kept.under {A : Nat → Prop} {w a b : World} (h : Kept None' w a) (k : Kept A a b) (hA : ∀ i, A i → w.heap.size ≤ i) : Kept None' w b :=
  ⟨k.os.trans h.os, k.output.trans h.output, Nat.le_trans h.size k.size, fun x => (k.frozen x).trans (h.frozen x), fun i hi hn =>
    (k.block i (Nat.lt_of_lt_of_le hi h.size) (fun x => by have := hA i x; omega)).trans (h.block i hi hn)⟩

/-- The two blocks: the levels that are there (at the places R), what has been given. -/
structure DfS (B G n : Nat) (q : Nat → Nat) (O : Nat → Int) (R : Nat → Prop) (wr : World) : Prop where
  out : ∃ g : Nat → Int, (∀ j, j < n → wr.cell? ⟨B, j, none⟩ = some (.int .i64 (g j))) ∧ ∀ j, j < n → R j → g j = O j
  got : GC G n q wr
  fzB : ∀ j, wr.frozen? ⟨B, j, none⟩ = false
  fzG : ∀ j, wr.frozen? ⟨G, j, none⟩ = false
theorem DfS.kept {A : Nat → Prop} {B G n : Nat} {q : Nat → Nat} {O : Nat → Int} {R : Nat → Prop} {wr w' : World} (h : DfS B G n q O R wr) (k : Kept A wr w') (hB : ¬ A B) (hG : ¬ A G) : DfS B G n q O R w' := by
  obtain ⟨g, h1, h2⟩ := h.out
  exact ⟨⟨g, fun j hj => k.some (h1 j hj) hB, h2⟩, h.got.kept k hG, fun j => (k.frozen _).trans (h.fzB j), fun j => (k.frozen _).trans (h.fzG j)⟩
theorem DfS.gave {B G n : Nat} {q q' : Nat → Nat} {O : Nat → Int} {R : Nat → Prop} {wr w' : World} (h : DfS B G n q O R wr) (k : Kept (fun i => i = G) wr w') (hBG : B ≠ G) (hq : GC G n q' w') : DfS B G n q' O R w' := by
  obtain ⟨g, h1, h2⟩ := h.out
  exact ⟨⟨g, fun j hj => k.some (h1 j hj) hBG, h2⟩, hq, fun j => (k.frozen _).trans (h.fzB j), fun j => (k.frozen _).trans (h.fzG j)⟩
theorem DfS.set {B G n : Nat} {q : Nat → Nat} {O : Nat → Int} {R R' : Nat → Prop} {wr : World} (h : DfS B G n q O R wr) (hBG : B ≠ G) (k : Nat) (v : Int) (hv : v = O k) (hR : ∀ j, j < n → R' j → R j ∨ j = k) : DfS B G n q O R' (wr.setCell ⟨B, k, none⟩ (.int .i64 v)) := by
  obtain ⟨g, h1, h2⟩ := h.out
  refine ⟨⟨fun j => if j = k then v else g j, fun j hj => ?_, fun j hj hr => ?_⟩, fun j hj => ?_, fun j => (World.frozen?_setCell ..).trans (h.fzB j), fun j => (World.frozen?_setCell ..).trans (h.fzG j)⟩
  · dsimp only
    by_cases e : j = k
    · subst e; rw [if_pos rfl]; exact cell_set_eq (h1 j hj)
    · rw [if_neg e]; exact cell_set_ne (h1 j hj) (Or.inr (fun x => e x.symm))
  · dsimp only
    by_cases e : j = k
    · subst e; rw [if_pos rfl]; exact hv
    · rw [if_neg e]; exact h2 j hj ((hR j hj hr).resolve_right e)
  · obtain ⟨r, a, b⟩ := h.got j hj
    exact ⟨r, cell_set_ne a (Or.inl hBG), b⟩
theorem DfS.weak {B G n : Nat} {q : Nat → Nat} {O : Nat → Int} {R R' : Nat → Prop} {wr : World} (h : DfS B G n q O R wr) (hR : ∀ j, j < n → R' j → R j) : DfS B G n q O R' wr := by
  obtain ⟨g, h1, h2⟩ := h.out
  exact ⟨⟨g, h1, fun j hj hr => h2 j hj (hR j hj hr)⟩, h.got, h.fzB, h.fzG⟩
theorem DfS.cell {B G n : Nat} {q : Nat → Nat} {O : Nat → Int} {R : Nat → Prop} {wr : World} (h : DfS B G n q O R wr) (k : Nat) (hk : k < n) : ∃ v, wr.cell? ⟨B, k, none⟩ = some (.int .i64 v) := by
  obtain ⟨g, h1, -⟩ := h.out
  exact ⟨_, h1 k hk⟩
end Go.Proofs.Ytfphhlodfieopaa
