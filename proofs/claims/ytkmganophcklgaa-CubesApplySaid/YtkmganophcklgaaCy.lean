/- The contract of cube.made: a cube that is made of entries that a function value gives. Conditions: none. -/
import Derived.Test.YtkmganophcklgaaCx
import Derived.Test.YtkmganophcklgaaMd
namespace Go.Proofs.Ytkmganophcklgaa
open Go.RowKit
open Fl Fr
open BigFrame

/-- A function value that makes an entry of a place, whatever NaN, and turns nothing old. -/
def Gives (g : FuncId) (caps : Array Value) (F : Int → Int → Int → Nat → Nat) (S : Nat) (w : World) : Prop :=
  ∀ (i j k : Int) (wr : World), Kept None' w wr → 0 ≤ i → i < S → 0 ≤ j → j < S → 0 ≤ k → k < S →
    Calls Try.prog g (#[.int .i64 i, .int .i64 j, .int .i64 k] ++ caps) wr fun e w'' =>
      ∃ r : Nat → Nat, e = .returned (.agg #[.float .f32 (r 0), .float .f32 (r 1), .float .f32 (r 2)]) ∧ (∀ c, c < 3 → cl .f32 (r c) = F i j k c) ∧ Kept None' wr w''

/-- The cube that is made, m singles through. -/
structure CbS (w : World) (Fb : Nat) (S : Int) (lo hi : Nat) (v : Value) (m : Nat) (G : Nat → Nat) (wr : World) : Prop where
  kept : Kept None' w wr
  lF : w.heap.size ≤ Fb
  sz : Fb + 1 ≤ wr.heap.size
  c0 : wr.cell? ⟨Fb, 0, none⟩ = some (.int .i64 S)
  c1 : wr.cell? ⟨Fb, 1, none⟩ = some (.float .f32 lo)
  c2 : wr.cell? ⟨Fb, 2, none⟩ = some (.float .f32 hi)
  c3 : wr.cell? ⟨Fb, 3, none⟩ = some v
  fz : ∀ a : Addr, w.heap.size ≤ a.block → wr.frozen? a = false
  own : wr.ownsRow (Fb + 1) 22 1 v m ((List.range m).map fun j => .float .f32 (G j))
theorem CbS.step {w : World} {Fb : Nat} {S : Int} {lo hi : Nat} {v : Value} {m : Nat} {G : Nat → Nat} {wr wr' : World} (h : CbS w Fb S lo hi v m G wr) (hk : Kept None' wr wr') : CbS w Fb S lo hi v m G wr' :=
  ⟨h.kept.trans hk, h.lF, Nat.le_trans h.sz hk.size, hk.some h.c0 id, hk.some h.c1 id, hk.some h.c2 id, hk.some h.c3 id, fun a ha => (hk.frozen a).trans (h.fz a ha), own_kept h.own hk⟩
theorem CbS.row {w : World} {Fb : Nat} {S : Int} {lo hi : Nat} {v : Value} {m : Nat} {G : Nat → Nat} {wr : World} (h : CbS w Fb S lo hi v m G wr) (k : Nat) (hv : v.ownBlock = some k) : Fb + 1 ≤ k := by
  rcases h.own.2 with ⟨rfl, _⟩ | ⟨g, cap, cur, rfl, hb, _⟩
  · cases hv
  · simp [Value.ownBlock] at hv; omega
/-- More singles are appended and the slice is stored. -/
theorem CbS.app {w : World} {Fb : Nat} {S : Int} {lo hi : Nat} {v v' : Value} {m n : Nat} {G : Nat → Nat} {wr wa wb : World} (h : CbS w Fb S lo hi v m G wr) (hk : Kept None' wr wa) (hk2 : Kept (fun k => v.ownBlock = some k) wa wb)
    (hown : wb.ownsRow (Fb + 1) 22 1 v' n ((List.range n).map fun j => .float .f32 (G j))) : CbS w Fb S lo hi v' n G (wb.setCell ⟨Fb, 3, none⟩ v') := by
  have h1 := h.step hk
  have hnF : ¬ (fun k => v.ownBlock = some k) Fb := fun e => by have := h1.row Fb e; omega
  have hlF := h1.lF
  have hA : ∀ i, i < w.heap.size → ¬ v.ownBlock = some i := fun i hi e => by have := h1.row i e; omega
  have hB := kept_over h1.kept hk2 hA
  refine ⟨Kept.setCell hB (Or.inl hlF) _, hlF, ?_, ?_, ?_, ?_, ?_, fun a ha => ?_, ?_⟩
  · simpa [World.setCell] using Nat.le_trans h1.sz hk2.size
  · exact cell_set_ne (hk2.some h1.c0 hnF) (Or.inr (by decide))
  · exact cell_set_ne (hk2.some h1.c1 hnF) (Or.inr (by decide))
  · exact cell_set_ne (hk2.some h1.c2 hnF) (Or.inr (by decide))
  · exact cell_set_eq (hk2.some h1.c3 hnF)
  · exact (World.frozen?_setCell ..).trans ((hk2.frozen a).trans (h1.fz a ha))
  · exact ownsRow_setCell_below hown (Nat.lt_succ_self _) _
theorem CbS.app_cell {w : World} {Fb : Nat} {S : Int} {lo hi : Nat} {v : Value} {m : Nat} {G : Nat → Nat} {wr wa wb : World} (h : CbS w Fb S lo hi v m G wr) (hk : Kept None' wr wa) (hk2 : Kept (fun k => v.ownBlock = some k) wa wb) : wb.cell? ⟨Fb, 3, none⟩ = some v :=
  hk2.some (h.step hk).c3 (fun e => by have := h.row Fb e; omega)
theorem CbS.app_frozen {w : World} {Fb : Nat} {S : Int} {lo hi : Nat} {v : Value} {m : Nat} {G : Nat → Nat} {wr wa wb : World} (h : CbS w Fb S lo hi v m G wr) (hk : Kept None' wr wa) (hk2 : Kept (fun k => v.ownBlock = some k) wa wb) : wb.frozen? ⟨Fb, 3, none⟩ = false :=
  (hk2.frozen _).trans ((h.step hk).fz _ h.lF)
theorem news_three {w : World} {b : Nat} {u0 u1 u2 : Value} (h0 : w.cell? ⟨b, 0, none⟩ = some u0) (h1 : w.cell? ⟨b, 1, none⟩ = some u1) (h2 : w.cell? ⟨b, 2, none⟩ = some u2) : ∀ j u, [u0, u1, u2][j]? = some u → w.cell? ((⟨b, 0, none⟩ : Addr).add j) = some u := fun j u hj => by
  match j with
  | 0 => simp at hj; subst hj; simpa [Addr.add] using h0
  | 1 => simp at hj; subst hj; simpa [Addr.add] using h1
  | 2 => simp at hj; subst hj; simpa [Addr.add] using h2
  | j + 3 => simp at hj
/-- The m-th single of the cube. -/
def cubG (F : Int → Int → Int → Nat → Nat) (S : Nat) (q : Nat) : Nat := F ((q / 3 % S : Nat) : Int) ((q / 3 / S % S : Nat) : Int) ((q / 3 / S / S : Nat) : Int) (q % 3)
theorem cubG_at {F : Int → Int → Int → Nat → Nat} {S i j k c : Nat} (hi : i < S) (hj : j < S) (hc : c < 3) : cubG F S (3 * (i + S * (j + S * k)) + c) = F i j k c := by
  unfold cubG
  have e1 : (3 * (i + S * (j + S * k)) + c) / 3 = i + S * (j + S * k) := by omega
  have e2 : (3 * (i + S * (j + S * k)) + c) % 3 = c := by omega
  have e3 : (i + S * (j + S * k)) % S = i := by rw [Nat.add_mul_mod_self_left, Nat.mod_eq_of_lt hi]
  have e4 : (i + S * (j + S * k)) / S = j + S * k := by rw [Nat.add_mul_div_left _ _ (by omega), Nat.div_eq_of_lt hi, Nat.zero_add]
  have e5 : (j + S * k) % S = j := by rw [Nat.add_mul_mod_self_left, Nat.mod_eq_of_lt hj]
  have e6 : (j + S * k) / S = k := by rw [Nat.add_mul_div_left _ _ (by omega), Nat.div_eq_of_lt hj, Nat.zero_add]
  rw [e1, e2, e3, e4, e5, e6]
theorem cub_lim {S i j k : Nat} (s2 : S ≤ 17) (hi : i < S) (hj : j < S) (hk : k < S) : 3 * (i + S * (j + S * k)) + 3 ≤ 14739 := by
  have h1 : S * k ≤ 17 * k := Nat.mul_le_mul_right _ s2
  have h2 : S * (j + S * k) ≤ 17 * (j + S * k) := Nat.mul_le_mul_right _ s2
  omega
theorem range_three {G : Nat → Nat} (m : Nat) : ((List.range (m + 3)).map fun j => Value.float .f32 (G j)) = ((List.range m).map fun j => Value.float .f32 (G j)) ++ [.float .f32 (G m), .float .f32 (G (m + 1)), .float .f32 (G (m + 2))] := by
  rw [List.range_succ, List.range_succ, List.range_succ]
  simp
/-- A cube that is made: n singles, G each. -/
def CuMade (S : Int) (lo hi n : Nat) (G : Nat → Nat) (w : World) (e : Ending) (w' : World) : Prop :=
  ∃ B cap, w.heap.size ≤ B ∧ e = .returned (.agg #[.int .i64 S, .float .f32 lo, .float .f32 hi, .slice (some ⟨B, 0, none⟩) n cap]) ∧ n ≤ cap ∧ cap ≤ maxLen ∧ Kept None' w w' ∧ ∀ j, j < n → w'.cell? ⟨B, j, none⟩ = some (.float .f32 (G j))
theorem CbS.size3 {S : Nat} : 3 * (S * (S * S)) = 3 * S * S * S := by simp [Nat.mul_assoc]
theorem cells_set4 {W : World} {B : Nat} {v0 v1 v2 v3 u0 u1 u2 u3 : Value} (r0 : W.cell? ⟨B, 0, none⟩ = some u0) (r1 : W.cell? ⟨B, 1, none⟩ = some u1) (r2 : W.cell? ⟨B, 2, none⟩ = some u2) (r3 : W.cell? ⟨B, 3, none⟩ = some u3) :
    let W' := (((W.setCell ⟨B, 0, none⟩ v0).setCell ⟨B, 1, none⟩ v1).setCell ⟨B, 2, none⟩ v2).setCell ⟨B, 3, none⟩ v3
    W'.cell? ⟨B, 0, none⟩ = some v0 ∧ W'.cell? ⟨B, 1, none⟩ = some v1 ∧ W'.cell? ⟨B, 2, none⟩ = some v2 ∧ W'.cell? ⟨B, 3, none⟩ = some v3 :=
  ⟨cell_set_ne (cell_set_ne (cell_set_ne (cell_set_eq r0) (by omega)) (by omega)) (by omega), cell_set_ne (cell_set_ne (cell_set_eq (cell_set_ne r1 (by omega))) (by omega)) (by omega),
    cell_set_ne (cell_set_eq (cell_set_ne (cell_set_ne r2 (by omega)) (by omega))) (by omega), cell_set_eq (cell_set_ne (cell_set_ne (cell_set_ne r3 (by omega)) (by omega)) (by omega))⟩
theorem kept_set4' {w W : World} {B : Nat} {v0 v1 v2 v3 : Value} (h : Kept None' w W) (hB : w.heap.size ≤ B) : Kept None' w ((((W.setCell ⟨B, 0, none⟩ v0).setCell ⟨B, 1, none⟩ v1).setCell ⟨B, 2, none⟩ v2).setCell ⟨B, 3, none⟩ v3) := by
  refine Kept.setCell (Kept.setCell (Kept.setCell (Kept.setCell h ?_ _) ?_ _) ?_ _) ?_ _ <;> exact Or.inl hB
theorem cu_ret1 {fn : Func} {t : Tmp} (hr : fn.results = #[.cell t 25]) (W : World) (tmps : Array Value) (B : Nat) (v0 v1 v2 v3 : Value) (h : W.cell? ⟨B, 0, none⟩ = some v0 ∧ W.cell? ⟨B, 1, none⟩ = some v1 ∧ W.cell? ⟨B, 2, none⟩ = some v2 ∧ W.cell? ⟨B, 3, none⟩ = some v3)
    (ht : tmps[t]?.getD undef = .pointer (some ⟨B, 0, none⟩)) : (results fn tmps).run Try.prog W = .ok (.agg #[v0, v1, v2, v3]) W := by
  obtain ⟨e0, e1, e2, e3⟩ := h
  simp [results, hr, go_sem, ht, e0, e1, e2, e3]
  try rfl

set_option linter.unusedSimpArgs false in
set_option linter.unusedVariables false in
set_option maxHeartbeats 16000000 in
set_option maxRecDepth 100000 in
theorem cmade_gen (S : Nat) (lo hi : Nat) (g : FuncId) (caps : Array Value) (F : Int → Int → Int → Nat → Nat) (w : World) (s1 : 2 ≤ S) (s2 : S ≤ 17) (hg : ∀ args w, (callFunc g args).run Try.prog w = .ok (.enter g args) w) (hf : Gives g caps F S w) :
    Calls Try.prog 69 #[.int .i64 S, .float .f32 lo, .float .f32 hi, .func (.func g) #[] caps] w (CuMade S lo hi (3 * (S * (S * S))) (cubG F S) w) := by
  have HF := Lib.hid hf
  clear hf
  go_enter Try.func69, Try.ntmps69
  go_wp2_with fail
  refine of_world (fun W0 hW => ?_)
  obtain ⟨W1, hW1⟩ : ∃ W1, W1 = w.alloc (.cells #[.int .i64 0, .float .f32 0, .float .f32 0, .slice none 0 0] 25) := ⟨_, rfl⟩
  rw [← hW1] at hW
  have r0 : W1.cell? ⟨w.heap.size, 0, none⟩ = some (.int .i64 0) := by rw [hW1]; exact cell_alloc_one w _ _ 0
  have r1 : W1.cell? ⟨w.heap.size, 1, none⟩ = some (.float .f32 0) := by rw [hW1]; exact cell_alloc_one w _ _ 1
  have r2 : W1.cell? ⟨w.heap.size, 2, none⟩ = some (.float .f32 0) := by rw [hW1]; exact cell_alloc_one w _ _ 2
  have r3 : W1.cell? ⟨w.heap.size, 3, none⟩ = some (.slice none 0 0) := by rw [hW1]; exact cell_alloc_one w _ _ 3
  have z1 : ∀ a : Addr, w.heap.size ≤ a.block → W1.frozen? a = false := fun a ha => by rw [hW1]; exact (frozen?_alloc_cells _ _ _ _).trans (frozen_new _ _ ha)
  have hsz : W1.heap.size = w.heap.size + 1 := by rw [hW1]; simp
  have K0 : Kept None' w W1 := by rw [hW1]; exact (Kept.refl None' w).alloc _ _
  have hS0 : CbS W1 (w.heap.size + 1) S lo hi (.slice none 0 0) 0 (cubG F S) W0 := by
    rw [← hsz, hW]
    refine ⟨(Kept.refl _ _).alloc _ _, Nat.le_refl _, by simp, cell_alloc_one W1 _ _ 0, cell_alloc_one W1 _ _ 1, cell_alloc_one W1 _ _ 2, cell_alloc_one W1 _ _ 3, fun a ha => (frozen?_alloc_cells _ _ _ _).trans (frozen_new _ _ ha), World.ownsRow_nil _ _ _ _⟩
  have HS0 := Lib.hid hS0
  have Z1 := Lib.hid z1
  have K0 := Lib.hid K0
  have HSZ := Lib.hid hsz
  clear hW hW1 hS0 z1 hsz
  go_loopw [19] (fun s19 wr => ∃ (k : Nat) (v : Value), k ≤ S ∧ s19 = .int .i64 (k : Int) ∧ CbS W1 (w.heap.size + 1) S lo hi v (3 * (S * (S * k))) (cubG F S) wr) (fun s19 _ => (S - intOf s19).toNat)
  case atStart => exact ⟨0, _, Nat.zero_le _, rfl, by simpa using HS0.out⟩
  case round =>
    obtain ⟨k, v, hk, rfl, hS⟩ := hrel
    have HS := Lib.hid hS
    have kp := hS.kept
    by_cases hlt : k < S
    · have d1 : decide ((k : Int) < (S : Int)) = true := decide_eq_true (by omega)
      clear hS kp
      go_wp2_with fail
      go_loopw [23] (fun s23 wr2 => ∃ (j : Nat) (v : Value), j ≤ S ∧ s23 = .int .i64 (j : Int) ∧ CbS W1 (w.heap.size + 1) S lo hi v (3 * (S * (j + S * k))) (cubG F S) wr2) (fun s23 _ => (S - intOf s23).toNat)
      case atStart => exact ⟨0, _, Nat.zero_le _, rfl, by simpa using HS.out⟩
      case round =>
        obtain ⟨j, v2, hj, rfl, hS⟩ := hrel
        have HS2 := Lib.hid hS
        by_cases hlt2 : j < S
        · have d2 : decide ((j : Int) < (S : Int)) = true := decide_eq_true (by omega)
          clear hS
          go_wp2_with fail
          go_loopw [27] (fun s27 wr3 => ∃ (i : Nat) (v : Value), i ≤ S ∧ s27 = .int .i64 (i : Int) ∧ CbS W1 (w.heap.size + 1) S lo hi v (3 * (i + S * (j + S * k))) (cubG F S) wr3) (fun s27 _ => (S - intOf s27).toNat)
          case atStart => exact ⟨0, _, Nat.zero_le _, rfl, by simpa using HS2.out⟩
          case round =>
            obtain ⟨i, v3, hi', rfl, hS⟩ := hrel
            have HS3 := Lib.hid hS
            have kp := hS.kept
            by_cases hlt3 : i < S
            · have d3 : decide ((i : Int) < (S : Int)) = true := decide_eq_true (by omega)
              have KP := Lib.hid kp
              clear hS kp
              go_wp2_with fail
              refine (HF.out i j k _ (K0.out.trans KP.out) (by omega) (by omega) (by omega) (by omega) (by omega) (by omega)).mono ?_
              rintro e w3 ⟨r, rfl, hr, hk3⟩
              have hR : ∀ c, c < 3 → cl .f32 (r c) = cubG F S (3 * (i + S * (j + S * k)) + c) := fun c hc => by rw [hr c hc, cubG_at hlt3 hlt2 hc]
              have HR := Lib.hid hR
              have HS4 := Lib.hid (HS3.out.step hk3)
              clear hr hR hk3
              go_wp2_with (first
                | (go_at_call 81; refine (cleaned_any _ _ _ _).mono ?_; rintro e w4 ⟨rfl, hk4⟩; have HS5 := Lib.hid (HS4.out.step hk4); clear hk4))
              have b3 := HS5.out.c3
              have f3 := HS5.out.fz ⟨w.heap.size + 1, 3, none⟩ HS5.out.lF
              have hlim := cub_lim s2 hlt3 hlt2 hlt
              obtain ⟨i0, hi0, hz0, hz1, hz2⟩ := info_parts float_info
              have l4 : w.heap.size + 1 < w4.heap.size := cell_lt b3
              go_region_law (first
                | (refine step_append_kept _ (by rfl) _ _ _ (by rfl) (w.heap.size + 1 + 1) 22 i0 _ 1 4 Try.underlying23 hi0 hz0 hz1 hz2 rfl (by omega) v3 (3 * (i + S * (j + S * k))) ((List.range (3 * (i + S * (j + S * k)))).map fun j => .float .f32 (cubG F S j)) (by rfl)
                      (own_kept HS5.out.own (by first | exact kept_alloc_drew _ _ _ | exact (kept_drew1 _).alloc _ _)) ⟨w4.heap.size, 0, none⟩ 3 3 [.float .f32 (cl .f32 (r 0)), .float .f32 (cl .f32 (r 1)), .float .f32 (cl .f32 (r 2))] (by rfl) rfl (news_three (by first | exact cell_alloc_one w4.drew _ _ 0 | exact drew_cell (cell_alloc_one w4 _ _ 0)) (by first | exact cell_alloc_one w4.drew _ _ 1 | exact drew_cell (cell_alloc_one w4 _ _ 1)) (by first | exact cell_alloc_one w4.drew _ _ 2 | exact drew_cell (cell_alloc_one w4 _ _ 2))) (by simp [Value.oneCell']) (by omega) (by unfold maxLen; omega) (by omega) (by have := HS5.out.sz; simp; omega) ?_
                   intro g4 cap4 w5 hown4 hk4 hat4
                   have e4 := HS5.out.app_cell (by first | exact kept_alloc_drew _ _ _ | exact (kept_drew1 _).alloc _ _) hk4
                   have e5 := HS5.out.app_frozen (by first | exact kept_alloc_drew _ _ _ | exact (kept_drew1 _).alloc _ _) hk4))
              all_goals
                go_wp2_with fail
                go_roundw
                case rel =>
                  refine ⟨i + 1, .slice (some ⟨g4, 0, none⟩) (3 * (i + S * (j + S * k)) + 3) cap4, by omega, by go_num, ?_⟩
                  rw [show 3 * (i + 1 + S * (j + S * k)) = 3 * (i + S * (j + S * k)) + 3 by omega]
                  refine HS5.out.app (kept_alloc_drew _ _ _) hk4 ?_
                  rw [range_three, ← HR.out 1 (by omega), ← HR.out 2 (by omega), show cubG F S (3 * (i + S * (j + S * k))) = cl .f32 (r 0) from (HR.out 0 (by omega)).symm]
                  exact hown4
                case measure => simp [intOf]; omega
            · obtain rfl : i = S := by omega
              have d3 : decide ((i : Int) < (i : Int)) = false := by simp
              clear hS kp
              go_wp2_with fail
              go_roundw
              case rel => exact ⟨j + 1, _, by omega, by go_num, by have := HS3.out; rwa [show 3 * (i + i * (j + i * k)) = 3 * (i * (j + 1 + i * k)) by rw [Nat.add_right_comm, Nat.mul_succ]; omega] at this⟩
              case measure => simp [intOf]; omega
        · obtain rfl : j = S := by omega
          have d2 : decide ((j : Int) < (j : Int)) = false := by simp
          clear hS
          go_wp2_with fail
          go_roundw
          case rel => exact ⟨k + 1, _, by omega, by go_num, by have := HS2.out; rwa [show j + j * k = j * (k + 1) by rw [Nat.mul_succ]; omega] at this⟩
          case measure => simp [intOf]; omega
    · obtain rfl : k = S := by omega
      have d1 : decide ((k : Int) < (k : Int)) = false := by simp
      have v0 := kp.some r0 id
      have v1 := kp.some r1 id
      have v2 := kp.some r2 id
      have v3 := kp.some r3 id
      have f0 : wr.frozen? ⟨w.heap.size, 0, none⟩ = false := (kp.frozen _).trans (Z1.out _ (by simp))
      have f1 : wr.frozen? ⟨w.heap.size, 1, none⟩ = false := (kp.frozen _).trans (Z1.out _ (by simp))
      have f2 : wr.frozen? ⟨w.heap.size, 2, none⟩ = false := (kp.frozen _).trans (Z1.out _ (by simp))
      have f3 : wr.frozen? ⟨w.heap.size, 3, none⟩ = false := (kp.frozen _).trans (Z1.out _ (by simp))
      have m0 := hS.c0
      have m1 := hS.c1
      have m2 := hS.c2
      have m3 := hS.c3
      have hrow := hS.own.2
      have hpos : 0 < 3 * (k * (k * k)) := Nat.mul_pos (by omega) (Nat.mul_pos (by omega) (Nat.mul_pos (by omega) (by omega)))
      rcases hrow with ⟨_, h0⟩ | ⟨B, cap, cur, rfl, hB, -, hcp, hcp2, -⟩
      · omega
      · have HB := Lib.hid (And.intro hB (And.intro hcp hcp2))
        have KP := Lib.hid kp
        clear hS kp hB hpos hcp hcp2
        go_wp2
        refine bodyPost_ret (cu_ret1 Try.results69 _ _ w.heap.size _ _ _ _ (cells_set4 v0 v1 v2 v3) rfl) rfl ?_
        obtain ⟨hB, hcp, hcp2⟩ := HB.out
        refine ⟨B, cap, by omega, rfl, hcp, hcp2, kept_set4' (K0.out.trans KP.out) (by omega), fun j hj => ?_⟩
        have := HS.out.own.cells (g := B) rfl j (.float .f32 (cubG F k j)) (by simp [hj])
        have hne : w.heap.size ≠ B := by omega
        rw [add_zero_block] at this
        exact cell_set_ne (cell_set_ne (cell_set_ne (cell_set_ne this (Or.inl hne)) (Or.inl hne)) (Or.inl hne)) (Or.inl hne)
end Go.Proofs.Ytkmganophcklgaa
