/- The contract of the reference's Made. Conditions: none. -/
import Derived.Test.YtkmganophcklgaaAp
import Derived.Test.YtkmganophcklgaaLf
import Derived.Test.YtkmganophcklgaaRh
import Derived.Test.YtkmganophcklgaaMw
import Derived.Deep.RegionLaw
namespace Go.Proofs.Ytkmganophcklgaa
open Go.RowKit
open Fl
open BigFrame

/-- A function value that makes a pixel of a place, whatever NaN, and turns nothing old. -/
def Mades (g : FuncId) (caps : Array Value) (F : Int → Int → Nat → Nat) (x y W H : Int) (w : World) : Prop :=
  ∀ (px py : Int) (wr : World), Kept None' w wr → x ≤ px → px < x + W → y ≤ py → py < y + H →
    Calls Try.prog g (#[.int .i64 px, .int .i64 py] ++ caps) wr fun e w'' =>
      ∃ r : Nat → Nat, e = .returned (.agg #[.float .f32 (r 0), .float .f32 (r 1), .float .f32 (r 2), .float .f32 (r 3)]) ∧ (∀ c, c < 4 → cl .f32 (r c) = F px py c) ∧ Kept None' wr w''

/-- The frame that is made, m singles through. -/
structure MdS (w : World) (Fb : Nat) (x y W H : Int) (v : Value) (m : Nat) (G : Nat → Nat) (wr : World) : Prop where
  kept : Kept None' w wr
  lF : w.heap.size ≤ Fb
  sz : Fb + 1 ≤ wr.heap.size
  c0 : wr.cell? ⟨Fb, 0, none⟩ = some (.int .i64 x)
  c1 : wr.cell? ⟨Fb, 1, none⟩ = some (.int .i64 y)
  c2 : wr.cell? ⟨Fb, 2, none⟩ = some (.int .i64 W)
  c3 : wr.cell? ⟨Fb, 3, none⟩ = some (.int .i64 H)
  c4 : wr.cell? ⟨Fb, 4, none⟩ = some v
  fz : ∀ a : Addr, w.heap.size ≤ a.block → wr.frozen? a = false
  own : wr.ownsRow (Fb + 1) 22 1 v m ((List.range m).map fun j => .float .f32 (G j))

theorem own_kept {w w' : World} {base : Nat} {e : TypeId} {size : Nat} {v : Value} {n : Nat} {xs : List Value} (h : w.ownsRow base e size v n xs) (hk : Kept None' w w') : w'.ownsRow base e size v n xs := by
  refine ⟨h.1, ?_⟩
  rcases h.2 with hn | ⟨g, cap, cur, rfl, hb, hgg, rest⟩
  · exact .inl hn
  · exact .inr ⟨g, cap, cur, rfl, hb, (hk.block g (Array.getElem?_eq_some_iff.1 hgg).1 id).trans hgg, rest⟩
theorem MdS.step {w : World} {Fb : Nat} {x y W H : Int} {v : Value} {m : Nat} {G : Nat → Nat} {wr wr' : World} (h : MdS w Fb x y W H v m G wr) (hk : Kept None' wr wr') : MdS w Fb x y W H v m G wr' :=
  ⟨h.kept.trans hk, h.lF, Nat.le_trans h.sz hk.size, hk.some h.c0 id, hk.some h.c1 id, hk.some h.c2 id, hk.some h.c3 id, hk.some h.c4 id, fun a ha => (hk.frozen a).trans (h.fz a ha), own_kept h.own hk⟩
theorem MdS.row {w : World} {Fb : Nat} {x y W H : Int} {v : Value} {m : Nat} {G : Nat → Nat} {wr : World} (h : MdS w Fb x y W H v m G wr) (k : Nat) (hv : v.ownBlock = some k) : Fb + 1 ≤ k := by
  rcases h.own.2 with ⟨rfl, _⟩ | ⟨g, cap, cur, rfl, hb, _⟩
  · cases hv
  · simp [Value.ownBlock] at hv; omega
theorem kept_over {R : Nat → Prop} {w a b : World} (h : Kept None' w a) (k : Kept R a b) (hR : ∀ i, i < w.heap.size → ¬ R i) : Kept None' w b :=
  ⟨k.os.trans h.os, k.output.trans h.output, Nat.le_trans h.size k.size, fun x => (k.frozen x).trans (h.frozen x), fun i hi _ => (k.block i (Nat.lt_of_lt_of_le hi h.size) (hR i hi)).trans (h.block i hi id)⟩
/-- One single more is appended and the slice is stored. -/
theorem MdS.app {w : World} {Fb : Nat} {x y W H : Int} {v v' : Value} {m : Nat} {G : Nat → Nat} {wr wa wb : World} (h : MdS w Fb x y W H v m G wr) (hk : Kept None' wr wa) (hk2 : Kept (fun k => v.ownBlock = some k) wa wb)
    (hown : wb.ownsRow (Fb + 1) 22 1 v' (m + 1) (((List.range m).map fun j => .float .f32 (G j)) ++ [.float .f32 (G m)])) : MdS w Fb x y W H v' (m + 1) G (wb.setCell ⟨Fb, 4, none⟩ v') := by
  have h1 := h.step hk
  have hnF : ¬ (fun k => v.ownBlock = some k) Fb := fun e => by have := h1.row Fb e; omega
  have hlF := h1.lF
  have hA : ∀ i, i < w.heap.size → ¬ v.ownBlock = some i := fun i hi e => by have := h1.row i e; omega
  have hB := kept_over h1.kept hk2 hA
  refine ⟨Kept.setCell hB (Or.inl hlF) _, hlF, ?_, ?_, ?_, ?_, ?_, ?_, fun a ha => ?_, ?_⟩
  · simpa [World.setCell] using Nat.le_trans h1.sz hk2.size
  · exact cell_set_ne (hk2.some h1.c0 hnF) (Or.inr (by decide))
  · exact cell_set_ne (hk2.some h1.c1 hnF) (Or.inr (by decide))
  · exact cell_set_ne (hk2.some h1.c2 hnF) (Or.inr (by decide))
  · exact cell_set_ne (hk2.some h1.c3 hnF) (Or.inr (by decide))
  · exact cell_set_eq (hk2.some h1.c4 hnF)
  · exact (World.frozen?_setCell ..).trans ((hk2.frozen a).trans (h1.fz a ha))
  · rw [List.range_succ, List.map_append]
    exact ownsRow_setCell_below hown (Nat.lt_succ_self _) _

theorem MdS.app_cell {w : World} {Fb : Nat} {x y W H : Int} {v : Value} {m : Nat} {G : Nat → Nat} {wr wa wb : World} (h : MdS w Fb x y W H v m G wr) (hk : Kept None' wr wa) (hk2 : Kept (fun k => v.ownBlock = some k) wa wb) : wb.cell? ⟨Fb, 4, none⟩ = some v :=
  hk2.some (h.step hk).c4 (fun e => by have := h.row Fb e; omega)
theorem MdS.app_frozen {w : World} {Fb : Nat} {x y W H : Int} {v : Value} {m : Nat} {G : Nat → Nat} {wr wa wb : World} (h : MdS w Fb x y W H v m G wr) (hk : Kept None' wr wa) (hk2 : Kept (fun k => v.ownBlock = some k) wa wb) : wb.frozen? ⟨Fb, 4, none⟩ = false :=
  (hk2.frozen _).trans ((h.step hk).fz _ h.lF)
def madeG (F : Int → Int → Nat → Nat) (x y W : Int) (j : Nat) : Nat := F (x + ((j / 4 : Nat) : Int) % W) (y + ((j / 4 : Nat) : Int) / W) (j % 4)

theorem madeG_at {F : Int → Int → Nat → Nat} {x y : Int} {W i j c : Nat} {r : Nat → Nat} (hj : j < W) (hc : c < 4) (hr : cl .f32 (r c) = F (x + j) (y + i) c) : cl .f32 (r c) = madeG F x y W (4 * (W * i + j) + c) := by
  rw [hr]
  unfold madeG
  have e1 : (4 * (W * i + j) + c) / 4 = W * i + j := by omega
  have e2 : (4 * (W * i + j) + c) % 4 = c := by omega
  have e3 : (W * i + j) % W = j := by rw [Nat.mul_add_mod, Nat.mod_eq_of_lt hj]
  have e4 : (W * i + j) / W = i := by rw [Nat.mul_add_div (by omega), Nat.div_eq_of_lt hj, Nat.add_zero]
  rw [e1, e2]
  rw [show ((W * i + j : Nat) : Int) % (W : Int) = (j : Int) by rw [← Int.natCast_emod, e3], show ((W * i + j : Nat) : Int) / (W : Int) = (i : Int) by rw [← Int.natCast_ediv, e4]]
theorem lim_bd {x y X Y : Int} {W H i j c : Nat} (h : (W : Int) * (H : Int) ≤ 16384) (hx : X < x + W) (hy : Y < y + H) (hX : X = x + j) (hY : Y = y + i) (hc : c < 4) : 4 * (W * i + j) + c + 1 ≤ 65536 := by
  have hi : i + 1 ≤ H := by omega
  have hj : j < W := by omega
  have h1 : W * (i + 1) ≤ W * H := Nat.mul_le_mul_left _ hi
  have h2 : W * H ≤ 16384 := by have : ((W * H : Nat) : Int) ≤ 16384 := by simpa using h
                                omega
  rw [Nat.mul_add] at h1
  omega
theorem drew_cell {w : World} {a : Addr} {v : Option Value} (h : w.cell? a = v) : w.drew.cell? a = v := h
theorem kept_alloc_drew {A : Nat → Prop} (w : World) (c : Array Value) (t : TypeId) : Kept A w (w.alloc (.cells c t)).drew := ((Kept.refl _ _).alloc _ _).drew 1
theorem kept_drew1 {A : Nat → Prop} (w : World) : Kept A w w.drew := (Kept.refl _ _).drew 1
theorem news_one {w : World} {b : Nat} {u0 : Value} (h : w.cell? ⟨b, 0, none⟩ = some u0) : ∀ j u, [u0][j]? = some u → w.cell? ((⟨b, 0, none⟩ : Addr).add j) = some u := fun j u hj => by
  cases j with
  | zero => simp at hj; subst hj; simpa [Addr.add] using h
  | succ j => simp at hj
theorem add_zero_block (b j : Nat) : (⟨b, 0, none⟩ : Addr).add j = ⟨b, j, none⟩ := by
  unfold Addr.add
  by_cases h : j = 0
  · subst h; simp
  · simp [h]
theorem fr_ret1 {fn : Func} {t : Tmp} (hr : fn.results = #[.cell t 83]) (W : World) (tmps : Array Value) (B : Nat) (v0 v1 v2 v3 v4 : Value) (h : W.cell? ⟨B, 0, none⟩ = some v0 ∧ W.cell? ⟨B, 1, none⟩ = some v1 ∧ W.cell? ⟨B, 2, none⟩ = some v2 ∧ W.cell? ⟨B, 3, none⟩ = some v3 ∧ W.cell? ⟨B, 4, none⟩ = some v4)
    (ht : tmps[t]?.getD undef = .pointer (some ⟨B, 0, none⟩)) : (results fn tmps).run Try.prog W = .ok (.agg #[v0, v1, v2, v3, v4]) W := by
  obtain ⟨e0, e1, e2, e3, e4⟩ := h
  simp [results, hr, go_sem, ht, e0, e1, e2, e3, e4]
  try rfl
theorem px_i0 (v0 v1 v2 v3 : Value) (w : World) : (Instr.index 56 (.agg #[v0, v1, v2, v3]) (.int .i64 0)).run Try.prog w = .ok v0 w := by kernel_rfl
theorem px_i1 (v0 v1 v2 v3 : Value) (w : World) : (Instr.index 56 (.agg #[v0, v1, v2, v3]) (.int .i64 1)).run Try.prog w = .ok v1 w := by kernel_rfl
theorem px_i2 (v0 v1 v2 v3 : Value) (w : World) : (Instr.index 56 (.agg #[v0, v1, v2, v3]) (.int .i64 2)).run Try.prog w = .ok v2 w := by kernel_rfl
theorem px_i3 (v0 v1 v2 v3 : Value) (w : World) : (Instr.index 56 (.agg #[v0, v1, v2, v3]) (.int .i64 3)).run Try.prog w = .ok v3 w := by kernel_rfl
theorem px_idx (r : Nat → Nat) (c : Nat) (hc : c < 4) (w : World) : (Instr.index 56 (.agg #[.float .f32 (r 0), .float .f32 (r 1), .float .f32 (r 2), .float .f32 (r 3)]) (.int .i64 (c : Int))).run Try.prog w = .ok (.float .f32 (r c)) w := by
  obtain rfl | rfl | rfl | rfl : c = 0 ∨ c = 1 ∨ c = 2 ∨ c = 3 := by omega
  · exact px_i0 ..
  · exact px_i1 ..
  · exact px_i2 ..
  · exact px_i3 ..
theorem float_info : (Try.prog.info? 22).map (fun i => (i.zero, i.size, i.bytes)) = some (some (.float .f32 0), 1, 4) := by kernel_rfl

/-- A frame that is made: n singles, G each. -/
def FrMade (x y W H : Int) (n : Nat) (G : Nat → Nat) (w : World) (e : Ending) (w' : World) : Prop :=
  ∃ B cap, w.heap.size ≤ B ∧ e = .returned (.agg #[.int .i64 x, .int .i64 y, .int .i64 W, .int .i64 H, .slice (some ⟨B, 0, none⟩) n cap]) ∧ Kept None' w w' ∧ ∀ j, j < n → w'.cell? ⟨B, j, none⟩ = some (.float .f32 (G j))

set_option linter.unusedSimpArgs false in
set_option linter.unusedVariables false in
set_option maxHeartbeats 16000000 in
set_option maxRecDepth 100000 in
theorem made_gen (x y : Int) (W H : Nat) (g : FuncId) (caps : Array Value) (F : Int → Int → Nat → Nat) (w : World) (hE : regE x y W H = 0) (hg : ∀ args w, (callFunc g args).run Try.prog w = .ok (.enter g args) w) (hf : Mades g caps F x y W H w) :
    Calls Try.prog 55 #[.agg #[.int .i64 x, .int .i64 y, .int .i64 W, .int .i64 H], .func (.func g) #[] caps] w (FrMade x y W H (4 * (W * H)) (madeG F x y W) w) := by
  obtain ⟨w1', w2', w3', w4', w5'⟩ := regE_ok hE
  obtain ⟨bx1, bx2, by1, by2⟩ := regE_place hE
  have HF := Lib.hid hf
  have HE := Lib.hid hE
  clear hf hE
  go_enter Try.func55, Try.ntmps55
  go_wp2_with fail
  refine of_world (fun W0 hW => ?_)
  obtain ⟨W1, hW1⟩ : ∃ W1, W1 = (w.alloc (.cells #[.int .i64 x, .int .i64 y, .int .i64 W, .int .i64 H] 81)).alloc (.cells #[.int .i64 0, .int .i64 0, .int .i64 0, .int .i64 0, .slice none 0 0] 83) := ⟨_, rfl⟩
  rw [← hW1] at hW
  have r0 : W1.cell? ⟨w.heap.size, 0, none⟩ = some (.int .i64 x) := by rw [hW1]; exact cell_alloc_two w _ _ _ _ 0
  have r1 : W1.cell? ⟨w.heap.size, 1, none⟩ = some (.int .i64 y) := by rw [hW1]; exact cell_alloc_two w _ _ _ _ 1
  have r2 : W1.cell? ⟨w.heap.size, 2, none⟩ = some (.int .i64 W) := by rw [hW1]; exact cell_alloc_two w _ _ _ _ 2
  have r3 : W1.cell? ⟨w.heap.size, 3, none⟩ = some (.int .i64 H) := by rw [hW1]; exact cell_alloc_two w _ _ _ _ 3
  have s0 : W1.cell? ⟨w.heap.size + 1, 0, none⟩ = some (.int .i64 0) := by rw [hW1]; exact cell_alloc_snd w _ _ _ 0
  have s1 : W1.cell? ⟨w.heap.size + 1, 1, none⟩ = some (.int .i64 0) := by rw [hW1]; exact cell_alloc_snd w _ _ _ 1
  have s2 : W1.cell? ⟨w.heap.size + 1, 2, none⟩ = some (.int .i64 0) := by rw [hW1]; exact cell_alloc_snd w _ _ _ 2
  have s3 : W1.cell? ⟨w.heap.size + 1, 3, none⟩ = some (.int .i64 0) := by rw [hW1]; exact cell_alloc_snd w _ _ _ 3
  have s4 : W1.cell? ⟨w.heap.size + 1, 4, none⟩ = some (.slice none 0 0) := by rw [hW1]; exact cell_alloc_snd w _ _ _ 4
  have z1 : ∀ a : Addr, w.heap.size ≤ a.block → W1.frozen? a = false := fun a ha => by rw [hW1]; exact (frozen?_alloc_cells _ _ _ _).trans ((frozen?_alloc_cells _ _ _ _).trans (frozen_new _ _ ha))
  have hsz : W1.heap.size = w.heap.size + 1 + 1 := by rw [hW1]; simp
  have K0 : Kept None' w W1 := by rw [hW1]; exact ((Kept.refl None' w).alloc _ _).alloc _ _
  have hS0 : MdS W1 (w.heap.size + 1 + 1) x y W H (.slice none 0 0) 0 (madeG F x y W) W0 := by
    rw [← hsz, hW]
    refine ⟨(Kept.refl _ _).alloc _ _, Nat.le_refl _, by simp, cell_alloc_one W1 _ _ 0, cell_alloc_one W1 _ _ 1, cell_alloc_one W1 _ _ 2, cell_alloc_one W1 _ _ 3, cell_alloc_one W1 _ _ 4, fun a ha => (frozen?_alloc_cells _ _ _ _).trans (frozen_new _ _ ha), World.ownsRow_nil _ _ _ _⟩
  have HS0 := Lib.hid hS0
  have Z1 := Lib.hid z1
  have K0 := Lib.hid K0
  have HSZ := Lib.hid hsz
  clear hW hW1 hS0 z1 hsz
  go_loopw [6] (fun s6 wr => ∃ (i : Nat) (Y : Int) (v : Value), i ≤ H ∧ Y = y + i ∧ s6 = .int .i64 Y ∧ MdS W1 (w.heap.size + 1 + 1) x y W H v (4 * (W * i)) (madeG F x y W) wr) (fun s6 _ => (y + H - intOf s6).toNat)
  case atStart => exact ⟨0, y, _, Nat.zero_le _, by simp, rfl, by simpa using HS0.out⟩
  case round =>
    obtain ⟨i, Y, v, hi, hY, rfl, hS⟩ := hrel
    have kp := hS.kept
    have t0 := kp.some r0 id
    have t1 := kp.some r1 id
    have t2 := kp.some r2 id
    have t3 := kp.some r3 id
    have HY := Lib.hid hY
    have HS := Lib.hid hS
    have y1 : y ≤ Y := by omega
    have y2 : Y ≤ y + H := by omega
    have KP := Lib.hid kp
    by_cases hlt : Y < y + H
    · have d1 : decide (Y < y + (H : Int)) = true := decide_eq_true hlt
      clear hS kp hY
      go_wp2_with fail
      go_loopw [7] (fun s7 wr2 => ∃ (j : Nat) (X : Int) (v : Value), j ≤ W ∧ X = x + j ∧ s7 = .int .i64 X ∧ MdS W1 (w.heap.size + 1 + 1) x y W H v (4 * (W * i + j)) (madeG F x y W) wr2) (fun s7 _ => (x + W - intOf s7).toNat)
      case atStart => exact ⟨0, x, _, Nat.zero_le _, by simp, rfl, by simpa using HS.out⟩
      case round =>
        obtain ⟨j, X, v2, hj, hX, rfl, hS⟩ := hrel
        have kp := hS.kept
        have q0 := kp.some r0 id
        have q1 := kp.some r1 id
        have q2 := kp.some r2 id
        have q3 := kp.some r3 id
        have HX := Lib.hid hX
        have HS2 := Lib.hid hS
        have x1 : x ≤ X := by omega
        have x2 : X ≤ x + W := by omega
        have KP2 := Lib.hid kp
        by_cases hlt2 : X < x + W
        · have d2 : decide (X < x + (W : Int)) = true := decide_eq_true hlt2
          clear hS kp hX
          go_wp2_with fail
          refine (HF.out X Y _ (K0.out.trans KP2.out) x1 hlt2 y1 hlt).mono ?_
          rintro e w3 ⟨r, rfl, hr, hk3⟩
          have hR : ∀ c, c < 4 → cl .f32 (r c) = madeG F x y W (4 * (W * i + j) + c) := fun c hc => by
            have hX := HX.out
            have hY := HY.out
            subst hX hY
            exact madeG_at (by omega) hc (hr c hc)
          have HR := Lib.hid hR
          have HS3 := Lib.hid (HS2.out.step hk3)
          clear hr hR hk3
          go_wp2_with fail
          go_loopw [38] (fun s38 wr3 => ∃ (c : Nat) (v : Value), c ≤ 4 ∧ s38 = .int .i64 (c : Int) ∧ MdS W1 (w.heap.size + 1 + 1) x y W H v (4 * (W * i + j) + c) (madeG F x y W) wr3) (fun s38 _ => 4 - (intOf s38).toNat)
          case atStart => exact ⟨0, _, Nat.zero_le _, rfl, HS3.out⟩
          case round =>
            obtain ⟨c, v3, hc, rfl, hS⟩ := hrel
            have HS4 := Lib.hid hS
            by_cases hc4 : c < 4
            · have d3 : decide ((c : Int) < 4) = true := decide_eq_true (by omega)
              have ix := px_idx r c hc4
              have b4 := hS.c4
              have f4 := hS.fz ⟨w.heap.size + 1 + 1, 4, none⟩ hS.lF
              have hlim : 4 * (W * i + j) + c + 1 ≤ 65536 := lim_bd w5' hlt2 hlt HX.out HY.out hc4
              obtain ⟨i0, hi0, hz0, hz1, hz2⟩ := info_parts float_info
              have l4 : w.heap.size + 1 + 1 < wr.heap.size := cell_lt b4
              clear hS
              go_wp2_with fail
              go_region_law (first
                | (refine step_append_kept _ (by rfl) _ _ _ (by rfl) (w.heap.size + 1 + 1 + 1) 22 i0 _ 1 4 Try.underlying23 hi0 hz0 hz1 hz2 rfl (by omega) v3 (4 * (W * i + j) + c) ((List.range (4 * (W * i + j) + c)).map fun j => .float .f32 (madeG F x y W j)) (by rfl)
                      (own_kept HS4.out.own (by first | exact kept_alloc_drew _ _ _ | exact (kept_drew1 _).alloc _ _)) ⟨wr.heap.size, 0, none⟩ 1 1 [.float .f32 (cl .f32 (r c))] (by rfl) rfl (news_one (by first | exact cell_alloc_one wr.drew _ _ 0 | exact drew_cell (cell_alloc_one wr _ _ 0))) (by simp [Value.oneCell']) (by omega) (by unfold maxLen; omega) (by omega) (by have := HS4.out.sz; simp; omega) ?_
                   intro g4 cap4 w4 hown4 hk4 hat4
                   have e4 := HS4.out.app_cell (by first | exact kept_alloc_drew _ _ _ | exact (kept_drew1 _).alloc _ _) hk4
                   have e5 := HS4.out.app_frozen (by first | exact kept_alloc_drew _ _ _ | exact (kept_drew1 _).alloc _ _) hk4)
                | (go_simp; go_at_call 31; refine (fix_any _ _).mono ?_; rintro e w' ⟨rfl, rfl⟩))
              all_goals
                go_wp2_with fail
                go_roundw
                case rel =>
                  refine ⟨c + 1, _, by omega, by go_num, HS4.out.app (kept_alloc_drew _ _ _) hk4 ?_⟩
                  rw [← HR.out c hc4]
                  exact hown4
                case measure => simp [intOf]; omega
            · obtain rfl : c = 4 := by omega
              have d3 : decide (((4 : Nat) : Int) < 4) = false := by decide
              clear hS
              go_wp2_with fail
              go_roundw
              case rel => exact ⟨j + 1, X + 1, _, by have := HX.out; omega, by have := HX.out; omega, rfl, by have := HS4.out; rwa [show 4 * (W * i + j) + 4 = 4 * (W * i + (j + 1)) by omega] at this⟩
              case measure => simp [intOf]; omega
        · have d2 : decide (X < x + (W : Int)) = false := decide_eq_false hlt2
          obtain rfl : j = W := by omega
          clear hS kp hX
          go_wp2_with fail
          go_roundw
          case rel => exact ⟨i + 1, Y + 1, _, by have := HY.out; omega, by have := HY.out; omega, rfl, by have := HS2.out; rwa [show 4 * (j * i + j) = 4 * (j * (i + 1)) from by rw [Nat.mul_succ]] at this⟩
          case measure => simp [intOf]; omega
    · have d1 : decide (Y < y + (H : Int)) = false := decide_eq_false hlt
      obtain rfl : i = H := by omega
      have v0 := kp.some s0 id
      have v1 := kp.some s1 id
      have v2 := kp.some s2 id
      have v3 := kp.some s3 id
      have v4 := kp.some s4 id
      have f0 : wr.frozen? ⟨w.heap.size + 1, 0, none⟩ = false := (kp.frozen _).trans (Z1.out _ (by simp))
      have f1 : wr.frozen? ⟨w.heap.size + 1, 1, none⟩ = false := (kp.frozen _).trans (Z1.out _ (by simp))
      have f2 : wr.frozen? ⟨w.heap.size + 1, 2, none⟩ = false := (kp.frozen _).trans (Z1.out _ (by simp))
      have f3 : wr.frozen? ⟨w.heap.size + 1, 3, none⟩ = false := (kp.frozen _).trans (Z1.out _ (by simp))
      have f4 : wr.frozen? ⟨w.heap.size + 1, 4, none⟩ = false := (kp.frozen _).trans (Z1.out _ (by simp))
      have m0 := hS.c0
      have m1 := hS.c1
      have m2 := hS.c2
      have m3 := hS.c3
      have m4 := hS.c4
      have hrow := hS.own.2
      have hpos : 0 < 4 * (W * i) := by
        have : 0 < W := by omega
        have : 0 < i := by omega
        have := Nat.mul_pos ‹0 < W› ‹0 < i›
        omega
      rcases hrow with ⟨_, h0⟩ | ⟨B, cap, cur, rfl, hB, _⟩
      · omega
      · have HB := Lib.hid hB
        clear hS kp hY hB hpos
        go_wp2
        refine bodyPost_ret (fr_ret1 Try.results55 _ _ (w.heap.size + 1) _ _ _ _ _ (cells_set5 v0 v1 v2 v3 v4) rfl) rfl ?_
        have hB := HB.out
        refine ⟨B, cap, by omega, rfl, kept_set5 (K0.out.trans KP.out) (by omega), fun j hj => ?_⟩
        have := HS.out.own.cells (g := B) rfl j (.float .f32 (madeG F x y W j)) (by simp [hj])
        have hne : w.heap.size + 1 ≠ B := by omega
        rw [add_zero_block] at this
        exact cell_set_ne (cell_set_ne (cell_set_ne (cell_set_ne (cell_set_ne this (Or.inl hne)) (Or.inl hne)) (Or.inl hne)) (Or.inl hne)) (Or.inl hne)
end Go.Proofs.Ytkmganophcklgaa
