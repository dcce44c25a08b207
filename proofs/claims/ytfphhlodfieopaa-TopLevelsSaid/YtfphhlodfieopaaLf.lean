/- The contract of finish.Frame. Conditions: none. -/
import Derived.Test.YtfphhlodfieopaaRg
import Derived.Test.YtfphhlodfieopaaRo
import Derived.Test.YtfphhlodfieopaaVa
import Derived.Deep.DeepCutAuto
import Derived.RegionTactic
import Derived.Outline
import Derived.Deep.OwnRows
namespace Go.Proofs.Ytfphhlodfieopaa
open Go.RowKit
open Fl
open BigFrame

def okTo (z : Nat → Int) (M : Int) : Nat → Bool
  | 0 => true
  | k + 1 => okTo z M k && inB (z k) 0 M
theorem okTo_false {z : Nat → Int} {M : Int} {k n : Nat} (h : okTo z M k = false) (hk : k ≤ n) : okTo z M n = false := by
  induction n with
  | zero => have : k = 0 := by omega
            subst this; exact h
  | succ n ih =>
    by_cases e : k = n + 1
    · subst e; exact h
    · simp [okTo, ih (by omega)]

theorem fr_ret2 {fn : Func} {t u : Tmp} (hr : fn.results = #[.cell t 27, .tmp u]) (W : World) (tmps : Array Value) (B : Nat) (v0 v1 v2 v3 v4 : Value) (h : W.cell? ⟨B, 0, none⟩ = some v0 ∧ W.cell? ⟨B, 1, none⟩ = some v1 ∧ W.cell? ⟨B, 2, none⟩ = some v2 ∧ W.cell? ⟨B, 3, none⟩ = some v3 ∧ W.cell? ⟨B, 4, none⟩ = some v4)
    (ht : tmps[t]?.getD undef = .pointer (some ⟨B, 0, none⟩)) : (results fn tmps).run Try.prog W = .ok (.tuple #[.agg #[v0, v1, v2, v3, v4], tmps.getD u undef]) W := by
  obtain ⟨e0, e1, e2, e3, e4⟩ := h
  simp [results, hr, go_sem, ht, e0, e1, e2, e3, e4]
  try rfl
theorem cells_set5 {W : World} {B : Nat} {v0 v1 v2 v3 v4 u0 u1 u2 u3 u4 : Value} (r0 : W.cell? ⟨B, 0, none⟩ = some u0) (r1 : W.cell? ⟨B, 1, none⟩ = some u1) (r2 : W.cell? ⟨B, 2, none⟩ = some u2) (r3 : W.cell? ⟨B, 3, none⟩ = some u3) (r4 : W.cell? ⟨B, 4, none⟩ = some u4) :
    let X := (((((W.setCell ⟨B, 0, none⟩ v0).setCell ⟨B, 1, none⟩ v1).setCell ⟨B, 2, none⟩ v2).setCell ⟨B, 3, none⟩ v3).setCell ⟨B, 4, none⟩ v4)
    X.cell? ⟨B, 0, none⟩ = some v0 ∧ X.cell? ⟨B, 1, none⟩ = some v1 ∧ X.cell? ⟨B, 2, none⟩ = some v2 ∧ X.cell? ⟨B, 3, none⟩ = some v3 ∧ X.cell? ⟨B, 4, none⟩ = some v4 := by
  refine ⟨?_, ?_, ?_, ?_, ?_⟩
  · exact cell_set_ne (cell_set_ne (cell_set_ne (cell_set_ne (cell_set_eq r0) (by omega)) (by omega)) (by omega)) (by omega)
  · exact cell_set_ne (cell_set_ne (cell_set_ne (cell_set_eq (cell_set_ne r1 (by omega))) (by omega)) (by omega)) (by omega)
  · exact cell_set_ne (cell_set_ne (cell_set_eq (cell_set_ne (cell_set_ne r2 (by omega)) (by omega))) (by omega)) (by omega)
  · exact cell_set_ne (cell_set_eq (cell_set_ne (cell_set_ne (cell_set_ne r3 (by omega)) (by omega)) (by omega))) (by omega)
  · exact cell_set_eq (cell_set_ne (cell_set_ne (cell_set_ne (cell_set_ne r4 (by omega)) (by omega)) (by omega)) (by omega))
theorem kept_set5 {w W : World} {B : Nat} {v0 v1 v2 v3 v4 : Value} (h : Kept None' w W) (hB : w.heap.size ≤ B) : Kept None' w (((((W.setCell ⟨B, 0, none⟩ v0).setCell ⟨B, 1, none⟩ v1).setCell ⟨B, 2, none⟩ v2).setCell ⟨B, 3, none⟩ v3).setCell ⟨B, 4, none⟩ v4) := by
  refine Kept.setCell (Kept.setCell (Kept.setCell (Kept.setCell (Kept.setCell h ?_ _) ?_ _) ?_ _) ?_ _) ?_ _ <;> exact Or.inl hB

theorem dec_cas {a M : Int} (h : a < 0 ∨ M < a) (d : decide (a < 0) = false) : decide (M < a) = true := by simp at d ⊢; omega
theorem dec_in {a M : Int} (h : inB a 0 M = true) : (0 ≤ a ∧ a ≤ M) ∧ decide (a < 0) = false ∧ decide (M < a) = false := by
  obtain ⟨h1, h2⟩ := inB_iff.1 h
  exact ⟨⟨h1, h2⟩, by simp; omega, by simp; omega⟩
theorem cas_of {a M : Int} (h : inB a 0 M = false) : a < 0 ∨ M < a := by
  rcases Int.lt_or_le a 0 with h1 | h1
  · exact Or.inl h1
  · rcases Int.lt_or_le M a with h' | h'
    · exact Or.inr h'
    · rw [inB_yes h1 h'] at h; cases h

/-- The frame that is made, k levels through. -/
structure FrS (w : World) (F B n : Nat) (x y W H : Int) (g : Nat → Nat) (wr : World) : Prop where
  kept : Kept None' w wr
  lF : w.heap.size ≤ F
  lB : w.heap.size ≤ B
  ne : F ≠ B
  c0 : wr.cell? ⟨F, 0, none⟩ = some (.int .i64 x)
  c1 : wr.cell? ⟨F, 1, none⟩ = some (.int .i64 y)
  c2 : wr.cell? ⟨F, 2, none⟩ = some (.int .i64 W)
  c3 : wr.cell? ⟨F, 3, none⟩ = some (.int .i64 H)
  c4 : wr.cell? ⟨F, 4, none⟩ = some (.slice (some ⟨B, 0, none⟩) n n)
  fz : ∀ a : Addr, w.heap.size ≤ a.block → wr.frozen? a = false
  cell : ∀ j, j < n → wr.cell? ⟨B, j, none⟩ = some (.float .f32 (g j))

theorem FrS.set {w : World} {F B n : Nat} {x y W H : Int} {g g' : Nat → Nat} {wr wr' : World} (h : FrS w F B n x y W H g wr) (hk : Kept None' wr wr') {k v : Nat} (hk1 : k < n) (hg : ∀ j, j < n → g' j = if j = k then v else g j) :
    FrS w F B n x y W H g' (wr'.setCell ⟨B, k, none⟩ (.float .f32 v)) := by
  have hne : B ≠ F := fun e => h.ne e.symm
  refine ⟨(h.kept.trans hk).setCell (Or.inl h.lB) _, h.lF, h.lB, h.ne, ?_, ?_, ?_, ?_, ?_, fun a ha => ?_, fun j hj => ?_⟩
  · exact cell_set_ne (hk.some h.c0 id) (Or.inl hne)
  · exact cell_set_ne (hk.some h.c1 id) (Or.inl hne)
  · exact cell_set_ne (hk.some h.c2 id) (Or.inl hne)
  · exact cell_set_ne (hk.some h.c3 id) (Or.inl hne)
  · exact cell_set_ne (hk.some h.c4 id) (Or.inl hne)
  · exact (World.frozen?_setCell ..).trans ((hk.frozen a).trans (h.fz a ha))
  · rw [hg j hj]
    by_cases e : j = k
    · subst e; rw [if_pos rfl]; exact cell_set_eq (hk.some (h.cell j hj) id)
    · rw [if_neg e]; exact cell_set_ne (hk.some (h.cell j hj) id) (Or.inr (fun h => e h.symm))

theorem made_at (n j : Nat) (v : Value) (h : j < n) : (madeCells #[v] n)[j]? = some v := by simp [madeCells, h, Nat.mod_one]
theorem FrS.mk1 {w w1 : World} (hk : Kept None' w w1) (hz : ∀ a : Addr, w.heap.size ≤ a.block → w1.frozen? a = false) (n : Nat) (x y W H : Int) (t u : TypeId) : FrS w (w1.heap.size + 1) w1.heap.size n x y W H (fun _ => 0)
    ((w1.alloc (.cells (madeCells #[.float .f32 0] n) t)).alloc (.cells #[.int .i64 x, .int .i64 y, .int .i64 W, .int .i64 H, .slice (some ⟨w1.heap.size, 0, none⟩) n n] u)).drew := by
  have hs := hk.size
  refine ⟨((hk.alloc _ _).alloc _ _).drew 1, by omega, by omega, by omega, ?_, ?_, ?_, ?_, ?_, fun a ha => ?_, fun j hj => ?_⟩
  · exact cell_alloc_snd w1 _ _ _ 0
  · exact cell_alloc_snd w1 _ _ _ 1
  · exact cell_alloc_snd w1 _ _ _ 2
  · exact cell_alloc_snd w1 _ _ _ 3
  · exact cell_alloc_snd w1 _ _ _ 4
  · exact (frozen?_alloc_cells _ _ _ _).trans ((frozen?_alloc_cells _ _ _ _).trans (hz a ha))
  · exact (cell_alloc_two w1 _ _ _ _ j).trans (made_at n j _ hj)
theorem FrS.mk2 {w w1 : World} (hk : Kept None' w w1) (hz : ∀ a : Addr, w.heap.size ≤ a.block → w1.frozen? a = false) (n : Nat) (x y W H : Int) (t u : TypeId) : FrS w w1.heap.size (w1.heap.size + 1) n x y W H (fun _ => 0)
    ((w1.alloc (.cells #[.int .i64 x, .int .i64 y, .int .i64 W, .int .i64 H, .slice (some ⟨w1.heap.size + 1, 0, none⟩) n n] u)).alloc (.cells (madeCells #[.float .f32 0] n) t)).drew := by
  have hs := hk.size
  refine ⟨((hk.alloc _ _).alloc _ _).drew 1, by omega, by omega, by omega, ?_, ?_, ?_, ?_, ?_, fun a ha => ?_, fun j hj => ?_⟩
  · exact cell_alloc_two w1 _ _ _ _ 0
  · exact cell_alloc_two w1 _ _ _ _ 1
  · exact cell_alloc_two w1 _ _ _ _ 2
  · exact cell_alloc_two w1 _ _ _ _ 3
  · exact cell_alloc_two w1 _ _ _ _ 4
  · exact (frozen?_alloc_cells _ _ _ _).trans ((frozen?_alloc_cells _ _ _ _).trans (hz a ha))
  · exact (cell_alloc_snd w1 _ _ _ j).trans (made_at n j _ hj)
theorem FrS.step {w : World} {F B n : Nat} {x y W H : Int} {g : Nat → Nat} {wr wr' : World} (h : FrS w F B n x y W H g wr) (hk : Kept None' wr wr') : FrS w F B n x y W H g wr' :=
  ⟨h.kept.trans hk, h.lF, h.lB, h.ne, hk.some h.c0 id, hk.some h.c1 id, hk.some h.c2 id, hk.some h.c3 id, hk.some h.c4 id, fun a ha => (hk.frozen a).trans (h.fz a ha), fun j hj => hk.some (h.cell j hj) id⟩

def zeroFrame : Value := .agg #[.int .i64 0, .int .i64 0, .int .i64 0, .int .i64 0, .slice none 0 0]
def FrPost (x y W H : Int) (n : Nat) (z : Nat → Int) (M : Int) (w : World) (e : Ending) (w' : World) : Prop :=
  Kept None' w w' ∧ ((okTo z M n = true ∧ ∃ B, w.heap.size ≤ B ∧ e = .returned (.tuple #[.agg #[.int .i64 x, .int .i64 y, .int .i64 W, .int .i64 H, .slice (some ⟨B, 0, none⟩) n n], .int .i64 0]) ∧ ∀ j, j < n → w'.cell? ⟨B, j, none⟩ = some (.float .f32 (valP (z j) M))) ∨
    (okTo z M n = false ∧ e = .returned (.tuple #[zeroFrame, .int .i64 3])))

set_option maxHeartbeats 1000000 in
theorem frame_go (x y W H d M : Int) (b o n cap : Nat) (z : Nat → Int) (w : World) (hE : regE x y W H = 0) (h1 : 1 ≤ d) (h2 : d ≤ 16) (hM : wrap64 (wrap64 (2 ^ d.toNat) - 1) = M) (h3 : 1 ≤ M) (h4 : M ≤ 65535)
    (hn : (n : Int) = 4 * W * H) (hc : ∀ i, i < n → w.cell? ⟨b, o + i, none⟩ = some (.int .i64 (z i))) (hcap : n ≤ cap) :
    Calls Try.prog 11 #[.agg #[.int .i64 x, .int .i64 y, .int .i64 W, .int .i64 H], .slice (some ⟨b, o, none⟩) n cap, .int .i64 d] w (FrPost x y W H n z M w) := by
  have b1 : (decide (1 ≤ d) && decide (d ≤ 16)) = true := by simp; omega
  have HM := Lib.hid hM
  clear hM
  have rg := regE_ok hE
  obtain ⟨w1', w2', w3', w4', w5'⟩ := rg
  have w6 := (mul_bd w1' w2' w3' w4').1
  have w7 : 4 * W * H = 4 * (W * H) := Int.mul_assoc ..
  have hw : IntKind.i64.wrap (4 * W * H) = 4 * W * H := IntWalk.i64_in _ (by omega)
  have hn4 : 4 * n ≤ 281474976710656 := by omega
  clear w7
  have ht : ((n : Int) != 4 * W * H) = false := by simp [hn]
  have HN := Lib.hid hn
  clear hn
  have HC := Lib.hid hc
  clear hc
  go_enter Try.func11, Try.ntmps11
  go_upto_region 8 with (first
    | (go_at_call 59; refine (checkregion_any _ _ _ _ _).mono ?_; rw [hE]; rintro e w1 ⟨rfl, hk1⟩
       have r0 := hk1.some (cell_alloc_two w _ _ _ _ 0) id
       have r1 := hk1.some (cell_alloc_two w _ _ _ _ 1) id
       have r2 := hk1.some (cell_alloc_two w _ _ _ _ 2) id
       have r3 := hk1.some (cell_alloc_two w _ _ _ _ 3) id
       have s0 := hk1.some (cell_alloc_snd w _ _ _ 0) id
       have s1 := hk1.some (cell_alloc_snd w _ _ _ 1) id
       have s2 := hk1.some (cell_alloc_snd w _ _ _ 2) id
       have s3 := hk1.some (cell_alloc_snd w _ _ _ 3) id
       have s4 := hk1.some (cell_alloc_snd w _ _ _ 4) id
       have z1 : ∀ a : Addr, w.heap.size ≤ a.block → w1.frozen? a = false := fun a ha => (hk1.frozen a).trans ((frozen?_alloc_cells _ _ _ _).trans ((frozen?_alloc_cells _ _ _ _).trans (frozen_new _ _ ha)))
       have K1 := Lib.hid ((((Kept.refl None' w).alloc _ _).alloc _ _).trans hk1)
       have Z1 := Lib.hid z1
       have hs1 : w.heap.size + 2 ≤ w1.heap.size := by have := hk1.size; simp at this; omega
       clear hk1 z1)
    | (go_at_call 60; refine (deep_any _ _).mono ?_; rintro e w' ⟨rfl, rfl⟩)
    | fail)
  have l0 : w.heap.size < w1.heap.size := by omega
  have l1 : w.heap.size < w1.heap.size + 1 := by omega
  have l2 : w.heap.size < w1.heap.size + 2 := by omega
  have hmk := run_make_row' (P := Try.prog) 25 38 (.float .f32 0) 4 Try.underlying25 (by kernel_rfl) rfl .i64 .i64 n hn4 (by omega)
  go_cut [9] (fun s9 wx => ∃ F B : Nat, s9 = .pointer (some ⟨F, 0, none⟩) ∧ FrS w1 F B n x y W H (fun _ => 0) wx)
  case first =>
    go_region
    · go_wp2_with fail
      go_meet
      exact ⟨_, _, rfl, FrS.mk1 (Kept.refl _ _) (fun _ h => frozen_new _ _ h) n x y W H _ _⟩
    · go_wp2_with fail
      go_meet
      exact ⟨_, _, rfl, FrS.mk2 (Kept.refl _ _) (fun _ h => frozen_new _ _ h) n x y W H _ _⟩
  case rest =>
    obtain ⟨F, B, rfl, hS⟩ := hcut
    have HS0 := Lib.hid hS
    clear hS hmk ht hw
    go_wp2
    go_loopw [39] (fun i wr => ∃ k : Nat, k ≤ n ∧ i = .int .i64 k ∧ okTo z M k = true ∧ FrS w1 F B n x y W H (fun j => if j < k then valP (z j) M else 0) wr) (fun i _ => n - (intOf i).toNat)
    case atStart => exact ⟨0, Nat.zero_le _, rfl, rfl, by simpa using HS0.out⟩
    case round =>
      obtain ⟨k, hk, rfl, hok, hS⟩ := hrel
      have hM := HM.out
      have kp := hS.kept
      have c0 := hS.c0
      have c1 := hS.c1
      have c2 := hS.c2
      have c3 := hS.c3
      have c4 := hS.c4
      have t0 := kp.some s0 id
      have t1 := kp.some s1 id
      have t2 := kp.some s2 id
      have t3 := kp.some s3 id
      have t4 := kp.some s4 id
      have f0 : wr.frozen? ⟨w.heap.size + 1, 0, none⟩ = false := (kp.frozen _).trans (Z1.out _ (by simp))
      have f1 : wr.frozen? ⟨w.heap.size + 1, 1, none⟩ = false := (kp.frozen _).trans (Z1.out _ (by simp))
      have f2 : wr.frozen? ⟨w.heap.size + 1, 2, none⟩ = false := (kp.frozen _).trans (Z1.out _ (by simp))
      have f3 : wr.frozen? ⟨w.heap.size + 1, 3, none⟩ = false := (kp.frozen _).trans (Z1.out _ (by simp))
      have f4 : wr.frozen? ⟨w.heap.size + 1, 4, none⟩ = false := (kp.frozen _).trans (Z1.out _ (by simp))
      have KP := Lib.hid kp
      have HS := Lib.hid hS
      have HO := Lib.hid hok
      clear hS kp hok s0 s1 s2 s3 s4 r0 r1 r2 r3
      by_cases hlt : k < n
      · have hc := KP.out.some (K1.out.some (HC.out k hlt) id) id
        cases bb : inB (z k) 0 M with
        | false =>
          have hno : okTo z M n = false := okTo_false (k := k + 1) (by simp [okTo, HO.out, bb]) hlt
          have hcas := cas_of bb
          clear bb
          have hcas := Lib.hid hcas
          cases d1 : decide (z k < 0) with
          | true =>
            go_wp2
            refine bodyPost_ret (fr_ret2 Try.results11 _ _ (w.heap.size + 1) _ _ _ _ _ (cells_set5 t0 t1 t2 t3 t4) rfl) rfl ?_
            exact ⟨kept_set5 (K1.out.trans KP.out) (by omega), Or.inr ⟨hno, rfl⟩⟩
          | false =>
            have d2 : decide (M < z k) = true := dec_cas hcas.out d1
            go_wp2
            refine bodyPost_ret (fr_ret2 Try.results11 _ _ (w.heap.size + 1) _ _ _ _ _ (cells_set5 t0 t1 t2 t3 t4) rfl) rfl ?_
            exact ⟨kept_set5 (K1.out.trans KP.out) (by omega), Or.inr ⟨hno, rfl⟩⟩
        | true =>
          obtain ⟨⟨z1, z2⟩, d1, d2⟩ := dec_in bb
          go_wp2
          have E4 := ext_cell c4
          have j1 : (0 : Int) ≤ (k : Int) := by omega
          have j2 : (k : Int) < (n : Int) := by omega
          refine region_ext_tail 7 (by kernel_rfl) (by kernel_rfl) ?_
          simp only [List.take_succ_cons, List.take_zero, List.drop_succ_cons, List.drop_zero]
          repeat (first
            | go_big_quiet_skip
            | (go_big_quiet_want; go_big_quiet_op; first | go_big_quiet_on | go_big_quiet_call ((go_at_call 61; exact calls_ext_same (value_any _ _ M _ h1 h2 HM.out h3 h4 z1 z2)))))
          refine wpQuiet_nil ?_
          rintro _ ⟨xq, rfl⟩
          have hk2 := ext_kept wr xq
          have hS2 := HS.out.step hk2
          have cB := hS2.cell k hlt
          have fB := hS2.fz ⟨B, k, none⟩ hS2.lB
          have HS2 := Lib.hid hS2
          clear E4 hS2 hk2
          generalize ext wr xq = w2 at *
          go_wp2
          go_roundw
          case rel =>
            refine ⟨k + 1, by omega, by go_num, by simp [okTo, HO.out, bb], HS2.out.set (Kept.refl _ _) hlt (fun j hj => ?_)⟩
            by_cases e : j = k
            · subst e; rw [if_pos (by omega), if_pos rfl]
            · rw [if_neg e]
              by_cases e2 : j < k
              · rw [if_pos e2, if_pos (by omega)]
              · rw [if_neg e2, if_neg (by omega)]
          case measure => simp [intOf]; omega
      · obtain rfl : k = n := by omega
        go_wp2
        refine bodyPost_ret (fr_ret2 Try.results11 _ _ (w.heap.size + 1) _ _ _ _ _ (cells_set5 t0 t1 t2 t3 t4) rfl) rfl ?_
        have hS := HS.out
        refine ⟨?_, Or.inl ⟨HO.out, B, Nat.le_trans K1.out.size hS.lB, rfl, fun j hj => ?_⟩⟩
        · exact kept_set5 (K1.out.trans KP.out) (by omega)
        · have hb : w1.heap.size ≤ B := hS.lB
          have := hS.cell j hj
          rw [if_pos hj] at this
          have hne : w.heap.size + 1 ≠ B := by omega
          exact cell_set_ne (cell_set_ne (cell_set_ne (cell_set_ne (cell_set_ne this (Or.inl hne)) (Or.inl hne)) (Or.inl hne)) (Or.inl hne)) (Or.inl hne)
end Go.Proofs.Ytfphhlodfieopaa
