/- Rows of bytes and of integers that a call makes; the contract of packed. Conditions: none. -/
import Derived.Test.YtfphhlodfieopaaAp
import Derived.Test.YtfphhlodfieopaaMd
import Derived.Test.YtfphhlodfieopaaRo
import Derived.Laws.BytesArg
import Derived.Outline
namespace Go.Proofs.Ytfphhlodfieopaa
open Go.RowKit
open BigFrame

theorem byte_info : (Try.prog.info? 5).map (fun i => (i.zero, i.size, i.bytes)) = some (some (.int .u8 0), 1, 1) := by kernel_rfl
theorem int_info : (Try.prog.info? 3).map (fun i => (i.zero, i.size, i.bytes)) = some (some (.int .i64 0), 1, 8) := by kernel_rfl

/-- A row of m integers of the call's own. -/
def OwnI (w : World) (base : Nat) (t : TypeId) (k : IntKind) (v : Value) (m : Nat) (G : Nat → Int) : Prop := w.ownsRow base t 1 v m ((List.range m).map fun j => .int k (G j))
theorem OwnI.kept {w w' : World} {base : Nat} {t : TypeId} {k : IntKind} {v : Value} {m : Nat} {G : Nat → Int} (h : OwnI w base t k v m G) (hk : Kept None' w w') : OwnI w' base t k v m G := own_kept h hk
theorem OwnI.nil (w : World) (base : Nat) (t : TypeId) (k : IntKind) (G : Nat → Int) : OwnI w base t k (.slice none 0 0) 0 G := World.ownsRow_nil w base t 1
theorem OwnI.block {w : World} {base : Nat} {t : TypeId} {k : IntKind} {v : Value} {m : Nat} {G : Nat → Int} (h : OwnI w base t k v m G) (i : Nat) (hi : v.ownBlock = some i) : base ≤ i := (World.ownsRow.lt h i hi).1
theorem OwnI.over {w a b : World} {base : Nat} {t : TypeId} {k : IntKind} {v : Value} {m : Nat} {G : Nat → Int} (h : OwnI a base t k v m G) (hb : w.heap.size ≤ base) (ha : Kept None' w a) (hk : Kept (fun i => v.ownBlock = some i) a b) : Kept None' w b :=
  kept_over ha hk fun i hi e => by have := h.block i e; omega
theorem OwnI.over' {w a a2 b : World} {t : TypeId} {k : IntKind} {v : Value} {m : Nat} {G : Nat → Int} (h : OwnI a w.heap.size t k v m G) (h2 : Kept None' a a2) (ha : Kept None' w a) (hk : Kept (fun i => v.ownBlock = some i) a2 b) : Kept None' w b :=
  (h.kept h2).over (Nat.le_refl _) (ha.trans h2) hk
theorem OwnI.app1 {w : World} {base : Nat} {t : TypeId} {k : IntKind} {v : Value} {m : Nat} {G : Nat → Int} {x : Int} (h : w.ownsRow base t 1 v (m + 1) (((List.range m).map fun j => .int k (G j)) ++ [.int k x])) (hx : x = G m) : OwnI w base t k v (m + 1) G := by
  unfold OwnI
  rw [List.range_succ, List.map_append, List.map_singleton, ← hx]
  exact h
theorem OwnI.app2 {w : World} {base : Nat} {t : TypeId} {k : IntKind} {v : Value} {m : Nat} {G : Nat → Int} {x y : Int} (h : w.ownsRow base t 1 v (m + 2) (((List.range m).map fun j => .int k (G j)) ++ [.int k x, .int k y])) (hx : x = G m) (hy : y = G (m + 1)) : OwnI w base t k v (m + 2) G := by
  unfold OwnI
  rw [List.range_succ, List.range_succ]
  simp only [List.map_append, List.map_cons, List.map_nil, List.append_assoc, List.cons_append, List.nil_append]
  rw [← hx, ← hy]
  exact h
theorem OwnI.app4 {w : World} {base : Nat} {t : TypeId} {k : IntKind} {v : Value} {m : Nat} {G : Nat → Int} {x y x2 y2 : Int} (h : w.ownsRow base t 1 v (m + 4) (((List.range m).map fun j => .int k (G j)) ++ [.int k x, .int k y, .int k x2, .int k y2])) (hx : x = G m) (hy : y = G (m + 1)) (hx2 : x2 = G (m + 2)) (hy2 : y2 = G (m + 3)) : OwnI w base t k v (m + 4) G := by
  unfold OwnI
  rw [List.range_succ, List.range_succ, List.range_succ, List.range_succ]
  simp only [List.map_append, List.map_cons, List.map_nil, List.append_assoc, List.cons_append, List.nil_append]
  rw [← hx, ← hy, ← hx2, ← hy2]
  exact h
theorem OwnI.cell {w : World} {base : Nat} {t : TypeId} {k : IntKind} {v : Value} {m : Nat} {G : Nat → Int} (h : OwnI w base t k v m G) (hm : 0 < m) : ∃ g cap, v = .slice (some ⟨g, 0, none⟩) m cap ∧ base ≤ g ∧ ∀ j, j < m → w.cell? ⟨g, j, none⟩ = some (.int k (G j)) := by
  obtain ⟨g, cap, e⟩ : ∃ g cap, v = .slice (some ⟨g, 0, none⟩) m cap := by
    rcases h.2 with ⟨_, h0⟩ | ⟨g, cap, cur, e, _⟩
    · omega
    · exact ⟨g, cap, e⟩
  subst e
  refine ⟨g, cap, rfl, h.block g rfl, fun j hj => ?_⟩
  have := World.ownsRow.cellAt h j (by omega)
  rw [this]
  simp [hj]

/-- The string of m bytes. -/
def strG (m : Nat) (G : Nat → Int) : ByteArray := strOfNums ((List.range m).map G)
theorem own_string {w : World} {base : Nat} {v : Value} {m : Nat} {G : Nat → Int} (h : OwnI w base 5 .u8 v m G) : (convert 101 9 v).run Try.prog w = .ok (.string (strG m G)) w := by
  by_cases hm : 0 < m
  · obtain ⟨g, cap, rfl, -, hc⟩ := h.cell hm
    refine run_convert_bytes_arg w 101 5 Try.underlying101 Try.underlying5 g 0 m cap _ (by simp) (fun i hi => ?_) 9 Try.underlying9
    rw [Nat.zero_add, hc i hi]
    simp [hi]
  · obtain rfl : m = 0 := by omega
    rcases h.2 with ⟨rfl, -⟩ | ⟨g, cap, cur, rfl, hb, hgg, rest⟩
    · exact run_convert_bytes_nil w 101 5 Try.underlying101 Try.underlying5 0 0 9 Try.underlying9
    · exact run_convert_bytes_arg w 101 5 Try.underlying101 Try.underlying5 g 0 0 cap [] rfl (fun i hi => by omega) 9 Try.underlying9

/-- May levels of this depth be packed? -/
def pkB (d : Int) : Bool := decide (d = 8 ∨ d = 10 ∨ d = 16)
theorem packed_any (d : Int) (w : World) : Calls Try.prog 75 #[.int .i64 d] w fun e w' => e = .returned (.bool (pkB d)) ∧ w = w' := by
  by_cases h1 : d = 8
  · subst h1
    go_enter Try.func75, Try.ntmps75
    go_wp2
    go_ret
    exact ⟨rfl, rfl⟩
  · by_cases h2 : d = 10
    · subst h2
      go_enter Try.func75, Try.ntmps75
      go_wp2
      go_ret
      exact ⟨rfl, rfl⟩
    · have b1 : (d == 8) = false := by simp [h1]
      have b2 : (d == 10) = false := by simp [h2]
      have hp : pkB d = (d == 16) := by unfold pkB; simp [h1, h2]; rfl
      rw [hp]
      clear hp
      go_enter Try.func75, Try.ntmps75
      go_wp2
      go_ret
      exact ⟨rfl, rfl⟩
end Go.Proofs.Ytfphhlodfieopaa
