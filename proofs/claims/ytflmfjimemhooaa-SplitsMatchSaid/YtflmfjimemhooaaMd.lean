/- The contract of the reference's Made. Conditions: none. -/
import Derived.Test.YtflmfjimemhooaaAp
import Derived.Test.YtflmfjimemhooaaLf
import Derived.Test.YtflmfjimemhooaaRh
import Derived.Test.YtflmfjimemhooaaMw
import Derived.Deep.RegionLaw
namespace Go.Proofs.Ytflmfjimemhooaa
open Go.RowKit
open Fl
open BigFrame

/-- A function value that makes a pixel of a place, whatever NaN, and turns nothing old. -/
def Mades (g : FuncId) (caps : Array Value) (F : Int → Int → Nat → Nat) (x y W H : Int) (w : World) : Prop :=
  ∀ (px py : Int) (wr : World), Kept None' w wr → x ≤ px → px < x + W → y ≤ py → py < y + H →
    Calls Try.prog g (#[.int .i64 px, .int .i64 py] ++ caps) wr fun e w'' =>
      ∃ r : Nat → Nat, e = .returned (.agg #[.float .f32 (r 0), .float .f32 (r 1), .float .f32 (r 2), .float .f32 (r 3)]) ∧ (∀ c, c < 4 → cl .f32 (r c) = F px py c) ∧ Kept None' wr w''

/-- The frame that is made, m singles through. -/
structure MdS (w : World) (Fb : Nat) (x y W H : Int) (v : Value) (m : Nat) (G : Nat → Nat) (wr : World) : Prop where
  kept : Kept None' w wr
  lF : w.heap.size ≤ Fb
  sz : Fb + 1 ≤ wr.heap.size
  c0 : wr.cell? ⟨Fb, 0, none⟩ = some (.int .i64 x)
  c1 : wr.cell? ⟨Fb, 1, none⟩ = some (.int .i64 y)
  c2 : wr.cell? ⟨Fb, 2, none⟩ = some (.int .i64 W)
  c3 : wr.cell? ⟨Fb, 3, none⟩ = some (.int .i64 H)
  c4 : wr.cell? ⟨Fb, 4, none⟩ = some v
  fz : ∀ a : Addr, w.heap.size ≤ a.block → wr.frozen? a = false
  own : wr.ownsRow (Fb + 1) 32 1 v m ((List.range m).map fun j => .float .f32 (G j))

theorem own_kept {w w' : World} {base : Nat} {e : TypeId} {size : Nat} {v : Value} {n : Nat} {xs : List Value} (h : w.ownsRow base e size v n xs) (hk : Kept None' w w') : w'.ownsRow base e size v n xs := by
  refine ⟨h.1, ?_⟩
  rcases h.2 with hn | ⟨g, cap, cur, rfl, hb, hgg, rest⟩
  · exact .inl hn
  · exact .inr ⟨g, cap, cur, rfl, hb, (hk.block g (Array.getElem?_eq_some_iff.1 hgg).1 id).trans hgg, rest⟩
theorem MdS.step {w : World} {Fb : Nat} {x y W H : Int} {v : Value} {m : Nat} {G : Nat → Nat} {wr wr' : World} (h : MdS w Fb x y W H v m G wr) (hk : Kept None' wr wr') : MdS w Fb x y W H v m G wr' :=
  ⟨h.kept.trans hk, h.lF, Nat.le_trans h.sz hk.size, hk.some h.c0 id, hk.some h.c1 id, hk.some h.c2 id, hk.some h.c3 id, hk.some h.c4 id, fun a ha => (hk.frozen a).trans (h.fz a ha), own_kept h.own hk⟩
theorem MdS.row {w : World} {Fb : Nat} {x y W H : Int} {v : Value} {m : Nat} {G : Nat → Nat} {wr : World} (h : MdS w Fb x y W H v m G wr) (k : Nat) (hv : v.ownBlock = some k) : Fb + 1 ≤ k := by
  rcases h.own.2 with ⟨rfl, _⟩ | ⟨g, cap, cur, rfl, hb, _⟩
  · cases hv
  · simp [Value.ownBlock] at hv; omega
theorem kept_over {R : Nat → Prop} {w a b : World} (h : Kept None' w a) (k : Kept R a b) (hR : ∀ i, i < w.heap.size → ¬ R i) : Kept None' w b :=
  ⟨k.os.trans h.os, k.output.trans h.output, Nat.le_trans h.size k.size, fun x => (k.frozen x).trans (h.frozen x), fun i hi _ => (k.block i (Nat.lt_of_lt_of_le hi h.size) (hR i hi)).trans (h.block i hi id)⟩
/-- One single more is appended and the slice is stored. -/
theorem MdS.app {w : World} {Fb : Nat} {x y W H : Int} {v v' : Value} {m : Nat} {G : Nat → Nat} {wr wa wb : World} (h : MdS w Fb x y W H v m G wr) (hk : Kept None' wr wa) (hk2 : Kept (fun k => v.ownBlock = some k) wa wb)
    (hown : wb.ownsRow (Fb + 1) 32 1 v' (m + 1) (((List.range m).map fun j => .float .f32 (G j)) ++ [.float .f32 (G m)])) : MdS w Fb x y W H v' (m + 1) G (wb.setCell ⟨Fb, 4, none⟩ v') := by
  have h1 := h.step hk
  have hnF : ¬ (fun k => v.ownBlock = some k) Fb := fun e => by have := h1.row Fb e; omega
  have hlF := h1.lF
  have hA : ∀ i, i < w.heap.size → ¬ v.ownBlock = some i := fun i hi e => by have := h1.row i e; omega
  have hB := kept_over h1.kept hk2 hA
  refine ⟨Kept.setCell hB (Or.inl hlF) _, hlF, ?_, ?_, ?_, ?_, ?_, ?_, fun a ha => ?_, ?_⟩
  · simpa [World.setCell] using Nat.le_trans h1.sz hk2.size
  · exact cell_set_ne (hk2.some h1.c0 hnF) (Or.inr (by decide))
  · exact cell_set_ne (hk2.some h1.c1 hnF) (Or.inr (by decide))
  · exact cell_set_ne (hk2.some h1.c2 hnF) (Or.inr (by decide))
  · exact cell_set_ne (hk2.some h1.c3 hnF) (Or.inr (by decide))
  · exact cell_set_eq (hk2.some h1.c4 hnF)
  · exact (World.frozen?_setCell ..).trans ((hk2.frozen a).trans (h1.fz a ha))
  · rw [List.range_succ, List.map_append]
    exact ownsRow_setCell_below hown (Nat.lt_succ_self _) _

theorem MdS.app_cell {w : World} {Fb : Nat} {x y W H : Int} {v : Value} {m : Nat} {G : Nat → Nat} {wr wa wb : World} (h : MdS w Fb x y W H v m G wr) (hk : Kept None' wr wa) (hk2 : Kept (fun k => v.ownBlock = some k) wa wb) : wb.cell? ⟨Fb, 4, none⟩ = some v :=
  hk2.some (h.step hk).c4 (fun e => by have := h.row Fb e; omega)
theorem MdS.app_frozen {w : World} {Fb : Nat} {x y W H : Int} {v : Value} {m : Nat} {G : Nat → Nat} {wr wa wb : World} (h : MdS w Fb x y W H v m G wr) (hk : Kept None' wr wa) (hk2 : Kept (fun k => v.ownBlock = some k) wa wb) : wb.frozen? ⟨Fb, 4, none⟩ = false :=
  (hk2.frozen _).trans ((h.step hk).fz _ h.lF)
def madeG (F : Int → Int → Nat → Nat) (x y W : Int) (j : Nat) : Nat := F (x + ((j / 4 : Nat) : Int) % W) (y + ((j / 4 : Nat) : Int) / W) (j % 4)

theorem madeG_at {F : Int → Int → Nat → Nat} {x y : Int} {W i j c : Nat} {r : Nat → Nat} (hj : j < W) (hc : c < 4) (hr : cl .f32 (r c) = F (x + j) (y + i) c) : cl .f32 (r c) = madeG F x y W (4 * (W * i + j) + c) := by
  rw [hr]
  unfold madeG
  have e1 : (4 * (W * i + j) + c) / 4 = W * i + j := by omega
  have e2 : (4 * (W * i + j) + c) % 4 = c := by omega
  have e3 : (W * i + j) % W = j := by rw [Nat.mul_add_mod, Nat.mod_eq_of_lt hj]
  have e4 : (W * i + j) / W = i := by rw [Nat.mul_add_div (by omega), Nat.div_eq_of_lt hj, Nat.add_zero]
  rw [e1, e2]
  rw [show ((W * i + j : Nat) : Int) % (W : Int) = (j : Int) by rw [← Int.natCast_emod, e3], show ((W * i + j : Nat) : Int) / (W : Int) = (i : Int) by rw [← Int.natCast_ediv, e4]]
theorem lim_bd {x y X Y : Int} {W H i j c : Nat} (h : (W : Int) * (H : Int) ≤ 16384) (hx : X < x + W) (hy : Y < y + H) (hX : X = x + j) (hY : Y = y + i) (hc : c < 4) : 4 * (W * i + j) + c + 1 ≤ 65536 := by
  have hi : i + 1 ≤ H := by omega
  have hj : j < W := by omega
  have h1 : W * (i + 1) ≤ W * H := Nat.mul_le_mul_left _ hi
  have h2 : W * H ≤ 16384 := by have : ((W * H : Nat) : Int) ≤ 16384 := by simpa using h
                                omega
  rw [Nat.mul_add] at h1
  omega
theorem drew_cell {w : World} {a : Addr} {v : Option Value} (h : w.cell? a = v) : w.drew.cell? a = v := h
theorem kept_alloc_drew {A : Nat → Prop} (w : World) (c : Array Value) (t : TypeId) : Kept A w (w.alloc (.cells c t)).drew := ((Kept.refl _ _).alloc _ _).drew 1
theorem kept_drew1 {A : Nat → Prop} (w : World) : Kept A w w.drew := (Kept.refl _ _).drew 1
theorem news_one {w : World} {b : Nat} {u0 : Value} (h : w.cell? ⟨b, 0, none⟩ = some u0) : ∀ j u, [u0][j]? = some u → w.cell? ((⟨b, 0, none⟩ : Addr).add j) = some u := fun j u hj => by
  cases j with
  | zero => simp at hj; subst hj; simpa [Addr.add] using h
  | succ j => simp at hj
theorem add_zero_block (b j : Nat) : (⟨b, 0, none⟩ : Addr).add j = ⟨b, j, none⟩ := by
  unfold Addr.add
  by_cases h : j = 0
  · subst h; simp
  · simp [h]
theorem fr_ret1 {fn : Func} {t : Tmp} (hr : fn.results = #[.cell t 26]) (W : World) (tmps : Array Value) (B : Nat) (v0 v1 v2 v3 v4 : Value) (h : W.cell? ⟨B, 0, none⟩ = some v0 ∧ W.cell? ⟨B, 1, none⟩ = some v1 ∧ W.cell? ⟨B, 2, none⟩ = some v2 ∧ W.cell? ⟨B, 3, none⟩ = some v3 ∧ W.cell? ⟨B, 4, none⟩ = some v4)
    (ht : tmps[t]?.getD undef = .pointer (some ⟨B, 0, none⟩)) : (results fn tmps).run Try.prog W = .ok (.agg #[v0, v1, v2, v3, v4]) W := by
  obtain ⟨e0, e1, e2, e3, e4⟩ := h
  simp [results, hr, go_sem, ht, e0, e1, e2, e3, e4]
  try rfl
theorem float_info : (Try.prog.info? 32).map (fun i => (i.zero, i.size, i.bytes)) = some (some (.float .f32 0), 1, 4) := by kernel_rfl

/-- A frame that is made: n singles, G each. -/
def FrMade (x y W H : Int) (n : Nat) (G : Nat → Nat) (w : World) (e : Ending) (w' : World) : Prop :=
  ∃ B cap, w.heap.size ≤ B ∧ e = .returned (.agg #[.int .i64 x, .int .i64 y, .int .i64 W, .int .i64 H, .slice (some ⟨B, 0, none⟩) n cap]) ∧ Kept None' w w' ∧ ∀ j, j < n → w'.cell? ⟨B, j, none⟩ = some (.float .f32 (G j))

end Go.Proofs.Ytflmfjimemhooaa
