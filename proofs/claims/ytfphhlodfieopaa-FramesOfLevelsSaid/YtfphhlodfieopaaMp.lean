/- The contract of finish.mapped. Conditions: none. -/
import Derived.Test.YtfphhlodfieopaaLf
import Derived.Test.YtfphhlodfieopaaRh
import Derived.Deep.RegionHeld3
import Derived.Outline
namespace Go.Proofs.Ytfphhlodfieopaa
open Go.RowKit
open Fl
open BigFrame

theorem cut_run (b o n cap p : Nat) (h : p + 4 ≤ cap) (w : World) : (Instr.slice 25 (.slice (some ⟨b, o, none⟩) n cap) (some (.int .i64 (p : Int))) (some (.int .i64 ((p : Int) + 4))) none).run Try.prog w = .ok (.slice (some ⟨b, o + p, none⟩) 4 (cap - p)) w := by
  have i1 : (0 : Int) ≤ (p : Int) := by omega
  have i2 : (p : Int) ≤ (p : Int) + 4 := by omega
  have i3 : (p : Int) + 4 ≤ (cap : Int) := by omega
  have i4 : ((p : Int) + 4).toNat = p + 4 := by omega
  have i5 : ¬ cap = p := by omega
  have e : Addr.add ⟨b, o, none⟩ p = ⟨b, o + p, none⟩ := by
    unfold Addr.add
    by_cases h : p = 0
    · subst h; simp
    · simp [h]
  have h2 := run_slice_lh (P := Try.prog) (w := w) (t := 25) (a := some ⟨b, o, none⟩) (len := n) (cap := cap) (ht := by kernel_rfl) .i64 .i64 (p : Int) ((p : Int) + 4) i1 i2 i3
  have h3 : (sizeOf (Try.prog.elem 25)).run Try.prog w = .ok 1 w := by kernel_rfl
  rw [h2, h3]
  simp [Result.andThen, sliced, i4, i5, e]
theorem cut_runAt (b o n cap p : Nat) (h : p + 4 ≤ cap) (w : World) : (Instr.sliceAt 25 (.slice (some ⟨b, o, none⟩) n cap) (some (.int .i64 (p : Int))) (some (.int .i64 ((p : Int) + 4))) none).run Try.prog w = .ok (.slice (some ⟨b, o + p, none⟩) 4 (cap - p)) w := by
  rw [run_sliceAt_slice (P := Try.prog) (w := w) (t := 25) (h := by kernel_rfl)]
  exact cut_run b o n cap p h w

theorem px_ptr (a : Addr) (c : Nat) (w : World) : (Instr.arrayAt 42 (.slice (some a) 4 c)).run Try.prog w = .ok (.pointer (some a)) w := by
  kernel_rfl

/-- What the region reads of a frame. -/
@[reducible] def mapS (wr : World) (R b o p n cap : Nat) (x y W : Int) (v0 v1 v2 v3 : Value) (w' : World) : Prop :=
  Kept None' wr w' ∧ w'.cell? ⟨R, 0, none⟩ = some (.int .i64 x) ∧ w'.cell? ⟨R, 1, none⟩ = some (.int .i64 y) ∧ w'.cell? ⟨R, 2, none⟩ = some (.int .i64 W) ∧ w'.cell? ⟨R, 4, none⟩ = some (.slice (some ⟨b, o, none⟩) n cap) ∧
    w'.cell? ⟨b, o + p, none⟩ = some v0 ∧ w'.cell? ⟨b, o + p + 1, none⟩ = some v1 ∧ w'.cell? ⟨b, o + p + 2, none⟩ = some v2 ∧ w'.cell? ⟨b, o + p + 3, none⟩ = some v3
theorem frozen_new_alloc {w w' : World} {c : Array Value} {t : TypeId} (h : Kept None' (w.alloc (.cells c t)) w') (j : Nat) : w'.frozen? ⟨w.heap.size, j, none⟩ = false :=
  (h.frozen _).trans ((frozen?_alloc_cells _ _ _ _).trans (frozen_new _ _ (Nat.le_refl _)))
theorem kept_alloc_drew {A : Nat → Prop} (w : World) (c : Array Value) (t : TypeId) : Kept A w (w.alloc (.cells c t)).drew := ((Kept.refl _ _).alloc _ _).drew 1
theorem drew_cell {w : World} {a : Addr} {v : Option Value} (h : w.cell? a = v) : w.drew.cell? a = v := h
theorem frozen_new_alloc2 {w w' : World} {c : Array Value} {t : TypeId} (h : Kept None' (w.alloc (.cells c t)).drew w') (j : Nat) : w'.frozen? ⟨w.heap.size, j, none⟩ = false :=
  (h.frozen _).trans ((frozen?_alloc_cells _ _ _ _).trans (frozen_new _ _ (Nat.le_refl _)))
theorem kept_drew1 {A : Nat → Prop} (w : World) : Kept A w w.drew := (Kept.refl _ _).drew 1
theorem mapS_of {wr : World} {R b o p n cap : Nat} {x y W : Int} {v0 v1 v2 v3 : Value} {w' : World} (h : mapS wr R b o p n cap x y W v0 v1 v2 v3 wr) (k : Kept None' wr w') : mapS wr R b o p n cap x y W v0 v1 v2 v3 w' := by
  obtain ⟨-, h0, h1, h2, h4, a0, a1, a2, a3⟩ := h
  exact ⟨k, k.some h0 id, k.some h1 id, k.some h2 id, k.some h4 id, k.some a0 id, k.some a1 id, k.some a2 id, k.some a3 id⟩
theorem kept_set4 {w W : World} {B : Nat} {v0 v1 v2 v3 : Value} (h : Kept None' w W) (hB : w.heap.size ≤ B) : Kept None' w ((((W.setCell ⟨B, 0, none⟩ v0).setCell ⟨B, 1, none⟩ v1).setCell ⟨B, 2, none⟩ v2).setCell ⟨B, 3, none⟩ v3) := by
  refine Kept.setCell (Kept.setCell (Kept.setCell (Kept.setCell h ?_ _) ?_ _) ?_ _) ?_ _ <;> exact Or.inl hB

theorem set4_at {W : World} {B : Nat} {r : Nat → Nat} {u0 u1 u2 u3 : Value} (g0 : W.cell? ⟨B, 0, none⟩ = some u0) (g1 : W.cell? ⟨B, 1, none⟩ = some u1) (g2 : W.cell? ⟨B, 2, none⟩ = some u2) (g3 : W.cell? ⟨B, 3, none⟩ = some u3) (c : Nat) (hc : c < 4) :
    ((((W.setCell ⟨B, 0, none⟩ (.float .f32 (r 0))).setCell ⟨B, 1, none⟩ (.float .f32 (r 1))).setCell ⟨B, 2, none⟩ (.float .f32 (r 2))).setCell ⟨B, 3, none⟩ (.float .f32 (r 3))).cell? ⟨B, c, none⟩ = some (.float .f32 (r c)) := by
  match c, hc with
  | 0, _ => exact cell_set_ne (cell_set_ne (cell_set_ne (cell_set_eq g0) (by omega)) (by omega)) (by omega)
  | 1, _ => exact cell_set_ne (cell_set_ne (cell_set_eq (cell_set_ne g1 (by omega))) (by omega)) (by omega)
  | 2, _ => exact cell_set_ne (cell_set_eq (cell_set_ne (cell_set_ne g2 (by omega)) (by omega))) (by omega)
  | 3, _ => exact cell_set_eq (cell_set_ne (cell_set_ne (cell_set_ne g3 (by omega)) (by omega)) (by omega))
theorem four_at (r : Nat → Nat) (c : Nat) (hc : c < 4) : (#[Value.float .f32 (r 0), Value.float .f32 (r 1), Value.float .f32 (r 2), Value.float .f32 (r 3)])[c]? = some (.float .f32 (r c)) := by
  match c, hc with
  | 0, _ => rfl
  | 1, _ => rfl
  | 2, _ => rfl
  | 3, _ => rfl

theorem px_idx0 (v0 v1 v2 v3 : Value) (w : World) : (Instr.index 42 (.agg #[v0, v1, v2, v3]) (.int .i64 0)).run Try.prog w = .ok v0 w := by kernel_rfl
theorem px_idx1 (v0 v1 v2 v3 : Value) (w : World) : (Instr.index 42 (.agg #[v0, v1, v2, v3]) (.int .i64 1)).run Try.prog w = .ok v1 w := by kernel_rfl
theorem px_idx2 (v0 v1 v2 v3 : Value) (w : World) : (Instr.index 42 (.agg #[v0, v1, v2, v3]) (.int .i64 2)).run Try.prog w = .ok v2 w := by kernel_rfl
theorem px_idx3 (v0 v1 v2 v3 : Value) (w : World) : (Instr.index 42 (.agg #[v0, v1, v2, v3]) (.int .i64 3)).run Try.prog w = .ok v3 w := by kernel_rfl

/-- A function value that makes a pixel of a place and a pixel, whatever NaN, and turns nothing old. -/
def Maps (g : FuncId) (caps : Array Value) (F : Int → Int → (Nat → Nat) → Nat → Nat) (w : World) : Prop :=
  ∀ (px py : Int) (p : Nat → Nat) (wr : World), Kept None' w wr → -1048576 ≤ px → px ≤ 1048576 → -1048576 ≤ py → py ≤ 1048576 →
    Calls Try.prog g (#[.int .i64 px, .int .i64 py, .agg #[.float .f32 (p 0), .float .f32 (p 1), .float .f32 (p 2), .float .f32 (p 3)]] ++ caps) wr fun e w'' =>
      ∃ r : Nat → Nat, e = .returned (.agg #[.float .f32 (r 0), .float .f32 (r 1), .float .f32 (r 2), .float .f32 (r 3)]) ∧ (∀ c, c < 4 → cl .f32 (r c) = F px py p c) ∧ Kept None' wr w''

/-- The j-th single of the frame that is made. -/
def mapG (F : Int → Int → (Nat → Nat) → Nat → Nat) (x y W : Int) (z : Nat → Nat) (j : Nat) : Nat :=
  F (x + ((j / 4 : Nat) : Int) % W) (y + ((j / 4 : Nat) : Int) / W) (fun c => z (4 * (j / 4) + c)) (j % 4)

theorem fr_ret1 {fn : Func} {t : Tmp} (hr : fn.results = #[.cell t 27]) (W : World) (tmps : Array Value) (B : Nat) (v0 v1 v2 v3 v4 : Value) (h : W.cell? ⟨B, 0, none⟩ = some v0 ∧ W.cell? ⟨B, 1, none⟩ = some v1 ∧ W.cell? ⟨B, 2, none⟩ = some v2 ∧ W.cell? ⟨B, 3, none⟩ = some v3 ∧ W.cell? ⟨B, 4, none⟩ = some v4)
    (ht : tmps[t]?.getD undef = .pointer (some ⟨B, 0, none⟩)) : (results fn tmps).run Try.prog W = .ok (.agg #[v0, v1, v2, v3, v4]) W := by
  obtain ⟨e0, e1, e2, e3, e4⟩ := h
  simp [results, hr, go_sem, ht, e0, e1, e2, e3, e4]
  try rfl
theorem mapG_at {F : Int → Int → (Nat → Nat) → Nat → Nat} {x y W cx cy : Int} {z r : Nat → Nat} {p k : Nat} (hp : p = 4 * k) (hcx : (k : Int) % W = cx) (hcy : (k : Int) / W = cy) (hr : ∀ c, c < 4 → cl .f32 (r c) = F (x + cx) (y + cy) (fun c => z (p + c)) c) :
    ∀ c, c < 4 → cl .f32 (r c) = mapG F x y W z (p + c) := fun c hc => by
  rw [hr c hc]
  unfold mapG
  have e1 : (p + c) / 4 = k := by omega
  have e2 : (p + c) % 4 = c := by omega
  rw [e1, e2, hcx, hcy, hp]
theorem mapG_next {g : Nat → Nat} {q v n : Nat} (h : v = g q) : ∀ j, j < n → (if j < q + 1 then g j else 0) = if j = q then v else (if j < q then g j else 0) := fun j _ => by
  by_cases e : j = q
  · subst e; rw [if_pos (by omega), if_pos rfl, h]
  · rw [if_neg e]
    by_cases e2 : j < q
    · rw [if_pos e2, if_pos (by omega)]
    · rw [if_neg e2, if_neg (by omega)]
theorem place_bd {x y W H cx cy : Int} {n k p : Nat} (hE : regE x y W H = 0) (hn : (n : Int) = 4 * W * H) (hp : p = 4 * k) (h : p + 4 ≤ n) (hcx : (k : Int) % W = cx) (hcy : (k : Int) / W = cy) :
    -1048576 ≤ x + cx ∧ x + cx ≤ 1048576 ∧ -1048576 ≤ y + cy ∧ y + cy ≤ 1048576 ∧ 0 ≤ cx ∧ cx ≤ 256 ∧ 0 ≤ cy ∧ cy ≤ 256 := by
  obtain ⟨w1, w2, w3, w4, w5⟩ := regE_ok hE
  have hk : (k : Int) < W * H := by have : 4 * W * H = 4 * (W * H) := Int.mul_assoc ..; omega
  have hb := regE_place hE
  have c1 : 0 ≤ cx := by rw [← hcx]; exact Int.emod_nonneg _ (by omega)
  have c2 : cx < W := by rw [← hcx]; exact Int.emod_lt_of_pos _ (by omega)
  have c3 : 0 ≤ cy := by rw [← hcy]; exact Int.ediv_nonneg (by omega) (by omega)
  have c4 : cy < H := by rw [← hcy]; exact Int.ediv_lt_of_lt_mul (by omega) (by rw [Int.mul_comm]; exact hk)
  omega

set_option linter.unusedSimpArgs false in
set_option linter.unusedVariables false in
set_option maxHeartbeats 16000000 in
set_option maxRecDepth 100000 in
theorem mapped_gen (x y W H : Int) (b o n cap : Nat) (z : Nat → Nat) (g : FuncId) (caps : Array Value) (F : Int → Int → (Nat → Nat) → Nat → Nat) (w : World) (hE : regE x y W H = 0) (hn : (n : Int) = 4 * W * H)
    (hc : ∀ i, i < n → w.cell? ⟨b, o + i, none⟩ = some (.float .f32 (z i))) (hcap : n ≤ cap) (hcap2 : cap ≤ maxLen) (hg : ∀ args w, (callFunc g args).run Try.prog w = .ok (.enter g args) w) (hf : Maps g caps F w) :
    Calls Try.prog 78 #[.agg #[.int .i64 x, .int .i64 y, .int .i64 W, .int .i64 H, .slice (some ⟨b, o, none⟩) n cap], .func (.func g) #[] caps] w fun e w' =>
      ∃ B, w.heap.size ≤ B ∧ e = .returned (.agg #[.int .i64 x, .int .i64 y, .int .i64 W, .int .i64 H, .slice (some ⟨B, 0, none⟩) n n]) ∧ Kept None' w w' ∧ ∀ j, j < n → w'.cell? ⟨B, j, none⟩ = some (.float .f32 (mapG F x y W z j)) := by
  obtain ⟨w1', w2', w3', w4', w5'⟩ := regE_ok hE
  have w6 := (mul_bd w1' w2' w3' w4').1
  have w7 : 4 * W * H = 4 * (W * H) := Int.mul_assoc ..
  have hn4 : 4 * n ≤ 281474976710656 := by omega
  have hn6 : n ≤ 65536 := by omega
  clear w7
  have HN := Lib.hid hn
  have HF := Lib.hid hf
  have HC := Lib.hid hc
  have HE := Lib.hid hE
  clear hn hf hc hE
  go_enter Try.func78, Try.ntmps78
  go_wp2_with fail
  refine of_world (fun W0 hW => ?_)
  have r0 : W0.cell? ⟨w.heap.size, 0, none⟩ = some (.int .i64 x) := by rw [hW]; exact cell_alloc_two w _ _ _ _ 0
  have r1 : W0.cell? ⟨w.heap.size, 1, none⟩ = some (.int .i64 y) := by rw [hW]; exact cell_alloc_two w _ _ _ _ 1
  have r2 : W0.cell? ⟨w.heap.size, 2, none⟩ = some (.int .i64 W) := by rw [hW]; exact cell_alloc_two w _ _ _ _ 2
  have r3 : W0.cell? ⟨w.heap.size, 3, none⟩ = some (.int .i64 H) := by rw [hW]; exact cell_alloc_two w _ _ _ _ 3
  have r4 : W0.cell? ⟨w.heap.size, 4, none⟩ = some (.slice (some ⟨b, o, none⟩) n cap) := by rw [hW]; exact cell_alloc_two w _ _ _ _ 4
  have s0 : W0.cell? ⟨w.heap.size + 1, 0, none⟩ = some (.int .i64 0) := by rw [hW]; exact cell_alloc_snd w _ _ _ 0
  have s1 : W0.cell? ⟨w.heap.size + 1, 1, none⟩ = some (.int .i64 0) := by rw [hW]; exact cell_alloc_snd w _ _ _ 1
  have s2 : W0.cell? ⟨w.heap.size + 1, 2, none⟩ = some (.int .i64 0) := by rw [hW]; exact cell_alloc_snd w _ _ _ 2
  have s3 : W0.cell? ⟨w.heap.size + 1, 3, none⟩ = some (.int .i64 0) := by rw [hW]; exact cell_alloc_snd w _ _ _ 3
  have s4 : W0.cell? ⟨w.heap.size + 1, 4, none⟩ = some (.slice none 0 0) := by rw [hW]; exact cell_alloc_snd w _ _ _ 4
  have z1 : ∀ a : Addr, w.heap.size ≤ a.block → W0.frozen? a = false := fun a ha => by rw [hW]; exact (frozen?_alloc_cells _ _ _ _).trans ((frozen?_alloc_cells _ _ _ _).trans (frozen_new _ _ ha))
  have hsz : W0.heap.size = w.heap.size + 2 := by rw [hW]; simp
  have K0 : Kept None' w W0 := by rw [hW]; exact ((Kept.refl None' w).alloc _ _).alloc _ _
  have K0 := Lib.hid K0
  have Z0 := Lib.hid z1
  have l0 : w.heap.size < W0.heap.size := by omega
  have l1 : w.heap.size < W0.heap.size + 1 := by omega
  have l2 : w.heap.size < W0.heap.size + 2 := by omega
  have HSZ := Lib.hid hsz
  clear hW z1 hsz
  have hmk := run_make_row' (P := Try.prog) 25 38 (.float .f32 0) 4 Try.underlying25 (by kernel_rfl) rfl .i64 .i64 n hn4 (by omega)
  go_cut [5] (fun s9 wx => ∃ F B : Nat, s9 = .pointer (some ⟨F, 0, none⟩) ∧ FrS W0 F B n x y W H (fun _ => 0) wx)
  case first =>
    go_region
    · go_wp2_with fail
      go_meet
      exact ⟨_, _, rfl, FrS.mk1 (Kept.refl _ _) (fun _ h => frozen_new _ _ h) n x y W H _ _⟩
    · go_wp2_with fail
      go_meet
      exact ⟨_, _, rfl, FrS.mk2 (Kept.refl _ _) (fun _ h => frozen_new _ _ h) n x y W H _ _⟩
  case rest =>
    obtain ⟨Fb, B, rfl, hS⟩ := hcut
    have HS0 := Lib.hid hS
    clear hS hmk
    go_wp2_with fail
    go_loopw [6] (fun i wr => ∃ k p : Nat, p = 4 * k ∧ p ≤ n ∧ i = .int .i64 (p : Int) ∧ FrS W0 Fb B n x y W H (fun j => if j < p then mapG F x y W z j else 0) wr) (fun i _ => n - (intOf i).toNat)
    case atStart => exact ⟨0, 0, rfl, Nat.zero_le _, rfl, by simpa using HS0.out⟩
    case round =>
      obtain ⟨k, p, hp, hpn, rfl, hS⟩ := hrel
      have kp := hS.kept
      have HP := Lib.hid hp
      have HS := Lib.hid hS
      have t0 := kp.some r0 id
      have t1 := kp.some r1 id
      have t2 := kp.some r2 id
      have t3 := kp.some r3 id
      have t4 := kp.some r4 id
      by_cases hlt : p + 4 ≤ n
      · have d1 : decide ((p : Int) + 4 ≤ (n : Int)) = true := by simp; omega
        have e0 := kp.some (K0.out.some (HC.out p (by omega)) id) id
        have e1 : wr.cell? ⟨b, o + p + 1, none⟩ = _ := kp.some (K0.out.some (HC.out (p + 1) (by omega)) id) id
        have e2 : wr.cell? ⟨b, o + p + 2, none⟩ = _ := kp.some (K0.out.some (HC.out (p + 2) (by omega)) id) id
        have e3 : wr.cell? ⟨b, o + p + 3, none⟩ = _ := kp.some (K0.out.some (HC.out (p + 3) (by omega)) id) id
        have KP := Lib.hid kp
        clear hS kp hp
        have q0 : ((p : Int)).tdiv 4 = (k : Int) := by have := HP.out; subst this; simp
        have q0' : (p : Int) / 4 = (k : Int) := by have := HP.out; omega
        obtain ⟨cx, hcx⟩ : ∃ cx : Int, (k : Int) % W = cx := ⟨_, rfl⟩
        obtain ⟨cy, hcy⟩ : ∃ cy : Int, (k : Int) / W = cy := ⟨_, rfl⟩
        have hcx' : ((k : Int)).tmod W = cx := by rw [Int.tmod_eq_emod_of_nonneg (by omega)]; exact hcx
        have hcy' : ((k : Int)).tdiv W = cy := by rw [Int.tdiv_eq_ediv_of_nonneg (by omega)]; exact hcy
        have bx := place_bd (x := x) (y := y) HE.out HN.out HP.out hlt hcx hcy
        obtain ⟨bx1, bx2, by1, by2, bx3, bx4, by3, by4⟩ := bx
        have wx : IntKind.i64.wrap (x + cx) = x + cx := IntWalk.i64_in _ (by omega)
        have wy : IntKind.i64.wrap (y + cy) = y + cy := IntWalk.i64_in _ (by omega)
        have wp4 : IntKind.i64.wrap ((p : Int) + 4) = (p : Int) + 4 := IntWalk.i64_in _ (by omega)
        have i1 : (0 : Int) ≤ (p : Int) := by omega
        have i2 : (p : Int) + 4 ≤ (cap : Int) := by omega
        have i3 : ((p : Int) + 4).toNat = p + 4 := by omega
        have hW0 : ¬ W = 0 := by omega
        have hW1 : (W == 0) = false := by simp; omega
        have wk : IntKind.i64.wrap (k : Int) = (k : Int) := IntWalk.i64_in _ (by omega)
        have wcx : IntKind.i64.wrap cx = cx := IntWalk.i64_in _ (by omega)
        have wcy : IntKind.i64.wrap cy = cy := IntWalk.i64_in _ (by omega)
        have hpp := px_ptr ⟨b, o + p, none⟩ (cap - p)
        have hsl := cut_run b o n cap p (by omega)
        have hsl2 := cut_runAt b o n cap p (by omega)
        go_wp2_with fail
        go_cut [7] (fun s7 wx => ∃ (P : Nat) (r : Nat → Nat), s7 = .pointer (some ⟨P, 0, none⟩) ∧ (∀ c, c < 4 → wx.cell? ⟨P, c, none⟩ = some (.float .f32 (r c)) ∧ cl .f32 (r c) = mapG F x y W z (p + c)) ∧ Kept None' wr wx)
        case first =>
          have hM : mapS wr w.heap.size b o p n cap x y W (.float .f32 (z p)) (.float .f32 (z (p + 1))) (.float .f32 (z (p + 2))) (.float .f32 (z (p + 3))) wr := ⟨Kept.refl _ _, t0, t1, t2, t4, e0, e1, e2, e3⟩
          have HM := Lib.hid hM
          clear hM
          go_region_held3 (fun w' => Kept None' wr w' ∧ w'.cell? ⟨w.heap.size, 0, none⟩ = some (.int .i64 x) ∧ w'.cell? ⟨w.heap.size, 1, none⟩ = some (.int .i64 y) ∧ w'.cell? ⟨w.heap.size, 2, none⟩ = some (.int .i64 W) ∧ w'.cell? ⟨w.heap.size, 4, none⟩ = some (.slice (some ⟨b, o, none⟩) n cap) ∧
              w'.cell? ⟨b, o + p, none⟩ = some (.float .f32 (z p)) ∧ w'.cell? ⟨b, o + p + 1, none⟩ = some (.float .f32 (z (p + 1))) ∧ w'.cell? ⟨b, o + p + 2, none⟩ = some (.float .f32 (z (p + 2))) ∧ w'.cell? ⟨b, o + p + 3, none⟩ = some (.float .f32 (z (p + 3))))
            (first
              | with_reducible exact mapS_of HM.out (kept_drew1 _)
              | with_reducible exact mapS_of HM.out (kept_alloc_drew _ _ _)
              | with_reducible exact mapS_of HM.out (Kept.alloc (And.left (by assumption)) _ _)
              | with_reducible exact mapS_of HM.out (Kept.trans (And.left (by assumption)) (by assumption))
              | with_reducible exact mapS_of HM.out (Kept.alloc (Kept.trans (kept_drew1 _) (by assumption)) _ _)
              | with_reducible exact mapS_of HM.out (kept_set4 (And.left (by assumption)) (Nat.le_refl _)))
            ((go_simp; refine (HF.out _ _ (fun c => z (p + c)) _ (K0.out.trans (KP.out.trans (And.left ‹_ ∧ _›))) bx1 bx2 by1 by2).mono ?_; rintro e w' ⟨r, rfl, hr, hk⟩
              try have g0 : w'.cell? ⟨wr.heap.size, 0, none⟩ = some (.float .f32 0) := by first | exact hk.some (cell_alloc_one wr.drew _ _ 0) id | exact hk.some (drew_cell (cell_alloc_one wr _ _ 0)) id
              try have g1 : w'.cell? ⟨wr.heap.size, 1, none⟩ = some (.float .f32 0) := by first | exact hk.some (cell_alloc_one wr.drew _ _ 1) id | exact hk.some (drew_cell (cell_alloc_one wr _ _ 1)) id
              try have g2 : w'.cell? ⟨wr.heap.size, 2, none⟩ = some (.float .f32 0) := by first | exact hk.some (cell_alloc_one wr.drew _ _ 2) id | exact hk.some (drew_cell (cell_alloc_one wr _ _ 2)) id
              try have g3 : w'.cell? ⟨wr.heap.size, 3, none⟩ = some (.float .f32 0) := by first | exact hk.some (cell_alloc_one wr.drew _ _ 3) id | exact hk.some (drew_cell (cell_alloc_one wr _ _ 3)) id
              try have y0 : w'.frozen? ⟨wr.heap.size, 0, none⟩ = false := by first | exact frozen_new_alloc (w := wr.drew) hk 0 | exact frozen_new_alloc2 hk 0
              try have y1 : w'.frozen? ⟨wr.heap.size, 1, none⟩ = false := by first | exact frozen_new_alloc (w := wr.drew) hk 1 | exact frozen_new_alloc2 hk 1
              try have y2 : w'.frozen? ⟨wr.heap.size, 2, none⟩ = false := by first | exact frozen_new_alloc (w := wr.drew) hk 2 | exact frozen_new_alloc2 hk 2
              try have y3 : w'.frozen? ⟨wr.heap.size, 3, none⟩ = false := by first | exact frozen_new_alloc (w := wr.drew) hk 3 | exact frozen_new_alloc2 hk 3))
          · go_wp2_with fail
            go_meet
            have HR := mapG_at (F := F) (x := x) (y := y) (z := z) (r := r) HP.out hcx hcy hr
            exact ⟨_, r, rfl, fun c hc4 => ⟨(cell_alloc_one _ _ _ c).trans (four_at r c hc4), HR c hc4⟩, ((kept_drew1 _).trans hk).alloc _ _⟩
          all_goals
            go_wp2_with fail
            go_meet
            have HR := mapG_at (F := F) (x := x) (y := y) (z := z) (r := r) HP.out hcx hcy hr
            refine ⟨_, r, rfl, fun c hc4 => ⟨set4_at g0 g1 g2 g3 c hc4, HR c hc4⟩, kept_set4 (Kept.trans (by first | exact (kept_drew1 _).alloc _ _ | exact kept_alloc_drew _ _ _) hk) (Nat.le_refl _)⟩
        case rest =>
          obtain ⟨P, r, rfl, hpx, hkx⟩ := hcut
          have x0 := (hpx 0 (by omega)).1
          have x1 := (hpx 1 (by omega)).1
          have x2 := (hpx 2 (by omega)).1
          have x3 := (hpx 3 (by omega)).1
          have HPX := Lib.hid hpx
          have S0 := Lib.hid (HS.out.step hkx)
          clear hpx hkx q0 q0' wx wy hsl hsl2 hpp hcx hcy hcx' hcy' wk wcx wcy
          go_wp2_with fail
          have ix0 := px_idx0
          have ix1 := px_idx1
          have ix2 := px_idx2
          have ix3 := px_idx3
          refine wp_loop_rounds 5 ?_
          rw [rounds_succ]
          go_wp2_with fail
          have c4 := S0.out.c4
          have E4 := ext_cell c4
          have j1 : (0 : Int) ≤ (p : Int) + 0 := by omega
          have j2 : (p : Int) < (n : Int) := by omega
          have j3 : ((p : Int)).toNat = p := by omega
          have j4 : IntKind.i64.wrap ((p : Int)) = (p : Int) := IntWalk.i64_in _ (by omega)
          refine region_ext_tail 8 (by kernel_rfl) (by kernel_rfl) ?_
          simp only [List.take_succ_cons, List.take_zero, List.drop_succ_cons, List.drop_zero]
          repeat (first
            | go_big_quiet_skip
            | (go_big_quiet_want; go_big_quiet_op; first | go_big_quiet_on | go_big_quiet_call ((go_at_call 105; exact calls_ext_same (clean_any _ _)))))
          refine wpQuiet_nil ?_
          rintro _ ⟨xq, rfl⟩
          have hS2 := S0.out.step (ext_kept _ xq)
          have cB := hS2.cell p (by omega)
          have fB := hS2.fz ⟨B, p, none⟩ hS2.lB
          have hS3 := hS2.set (Kept.refl _ _) (k := p) (v := cl .f32 (r 0)) (g' := fun j => if j < p + 1 then mapG F x y W z j else 0) (by omega) (mapG_next (HPX.out 0 (by omega)).2)
          have S1 := Lib.hid hS3
          clear c4 E4 hS2 hS3 S0
          generalize ext _ xq = w2 at *
          go_wp2_with fail
          rw [rounds_succ]
          go_wp2_with fail
          have c4 := S1.out.c4
          have E4 := ext_cell c4
          have j1 : (0 : Int) ≤ (p : Int) + 1 := by omega
          have j2 : (p : Int) + 1 < (n : Int) := by omega
          have j3 : ((p : Int) + 1).toNat = p + 1 := by omega
          have j4 : IntKind.i64.wrap ((p : Int) + 1) = (p : Int) + 1 := IntWalk.i64_in _ (by omega)
          refine region_ext_tail 8 (by kernel_rfl) (by kernel_rfl) ?_
          simp only [List.take_succ_cons, List.take_zero, List.drop_succ_cons, List.drop_zero]
          repeat (first
            | go_big_quiet_skip
            | (go_big_quiet_want; go_big_quiet_op; first | go_big_quiet_on | go_big_quiet_call ((go_at_call 105; exact calls_ext_same (clean_any _ _)))))
          refine wpQuiet_nil ?_
          rintro _ ⟨xq, rfl⟩
          have hS2 := S1.out.step (ext_kept _ xq)
          have cB := hS2.cell (p + 1) (by omega)
          have fB := hS2.fz ⟨B, p + 1, none⟩ hS2.lB
          have hS3 := hS2.set (Kept.refl _ _) (k := p + 1) (v := cl .f32 (r 1)) (g' := fun j => if j < p + 2 then mapG F x y W z j else 0) (by omega) (mapG_next (HPX.out 1 (by omega)).2)
          have S2 := Lib.hid hS3
          clear c4 E4 hS2 hS3 S1
          generalize ext _ xq = w3 at *
          go_wp2_with fail
          rw [rounds_succ]
          go_wp2_with fail
          have c4 := S2.out.c4
          have E4 := ext_cell c4
          have j1 : (0 : Int) ≤ (p : Int) + 2 := by omega
          have j2 : (p : Int) + 2 < (n : Int) := by omega
          have j3 : ((p : Int) + 2).toNat = p + 2 := by omega
          have j4 : IntKind.i64.wrap ((p : Int) + 2) = (p : Int) + 2 := IntWalk.i64_in _ (by omega)
          refine region_ext_tail 8 (by kernel_rfl) (by kernel_rfl) ?_
          simp only [List.take_succ_cons, List.take_zero, List.drop_succ_cons, List.drop_zero]
          repeat (first
            | go_big_quiet_skip
            | (go_big_quiet_want; go_big_quiet_op; first | go_big_quiet_on | go_big_quiet_call ((go_at_call 105; exact calls_ext_same (clean_any _ _)))))
          refine wpQuiet_nil ?_
          rintro _ ⟨xq, rfl⟩
          have hS2 := S2.out.step (ext_kept _ xq)
          have cB := hS2.cell (p + 2) (by omega)
          have fB := hS2.fz ⟨B, p + 2, none⟩ hS2.lB
          have hS3 := hS2.set (Kept.refl _ _) (k := p + 2) (v := cl .f32 (r 2)) (g' := fun j => if j < p + 3 then mapG F x y W z j else 0) (by omega) (mapG_next (HPX.out 2 (by omega)).2)
          have S3 := Lib.hid hS3
          clear c4 E4 hS2 hS3 S2
          generalize ext _ xq = w4 at *
          go_wp2_with fail
          rw [rounds_succ]
          go_wp2_with fail
          have c4 := S3.out.c4
          have E4 := ext_cell c4
          have j1 : (0 : Int) ≤ (p : Int) + 3 := by omega
          have j2 : (p : Int) + 3 < (n : Int) := by omega
          have j3 : ((p : Int) + 3).toNat = p + 3 := by omega
          have j4 : IntKind.i64.wrap ((p : Int) + 3) = (p : Int) + 3 := IntWalk.i64_in _ (by omega)
          refine region_ext_tail 8 (by kernel_rfl) (by kernel_rfl) ?_
          simp only [List.take_succ_cons, List.take_zero, List.drop_succ_cons, List.drop_zero]
          repeat (first
            | go_big_quiet_skip
            | (go_big_quiet_want; go_big_quiet_op; first | go_big_quiet_on | go_big_quiet_call ((go_at_call 105; exact calls_ext_same (clean_any _ _)))))
          refine wpQuiet_nil ?_
          rintro _ ⟨xq, rfl⟩
          have hS2 := S3.out.step (ext_kept _ xq)
          have cB := hS2.cell (p + 3) (by omega)
          have fB := hS2.fz ⟨B, p + 3, none⟩ hS2.lB
          have hS3 := hS2.set (Kept.refl _ _) (k := p + 3) (v := cl .f32 (r 3)) (g' := fun j => if j < p + 4 then mapG F x y W z j else 0) (by omega) (mapG_next (HPX.out 3 (by omega)).2)
          have S4 := Lib.hid hS3
          clear c4 E4 hS2 hS3 S3
          generalize ext _ xq = w5 at *
          go_wp2_with fail
          rw [rounds_succ]
          go_wp2_with fail
          go_roundw
          case rel => exact ⟨k + 1, p + 4, by have := HP.out; omega, by omega, by go_num, S4.out⟩
          case measure => simp [intOf]; omega
      · have hpn' : p = n := by have := HP.out; have := HN.out; have : 4 * W * H = 4 * (W * H) := Int.mul_assoc ..; omega
        subst hpn'
        have d1 : decide ((p : Int) + 4 ≤ (p : Int)) = false := decide_eq_false (by omega)
        have v0 := kp.some s0 id
        have v1 := kp.some s1 id
        have v2 := kp.some s2 id
        have v3 := kp.some s3 id
        have v4 := kp.some s4 id
        have f0 : wr.frozen? ⟨w.heap.size + 1, 0, none⟩ = false := (kp.frozen _).trans (Z0.out _ (by simp))
        have f1 : wr.frozen? ⟨w.heap.size + 1, 1, none⟩ = false := (kp.frozen _).trans (Z0.out _ (by simp))
        have f2 : wr.frozen? ⟨w.heap.size + 1, 2, none⟩ = false := (kp.frozen _).trans (Z0.out _ (by simp))
        have f3 : wr.frozen? ⟨w.heap.size + 1, 3, none⟩ = false := (kp.frozen _).trans (Z0.out _ (by simp))
        have f4 : wr.frozen? ⟨w.heap.size + 1, 4, none⟩ = false := (kp.frozen _).trans (Z0.out _ (by simp))
        have m0 := hS.c0
        have m1 := hS.c1
        have m2 := hS.c2
        have m3 := hS.c3
        have m4 := hS.c4
        have KP := Lib.hid kp
        clear hS kp hp
        go_wp2
        refine bodyPost_ret (fr_ret1 Try.results78 _ _ (w.heap.size + 1) _ _ _ _ _ (cells_set5 v0 v1 v2 v3 v4) rfl) rfl ?_
        have hS := HS.out
        have hb : W0.heap.size ≤ B := hS.lB
        have hz := HSZ.out
        refine ⟨B, by omega, rfl, kept_set5 (K0.out.trans KP.out) (by omega), fun j hj => ?_⟩
        have := hS.cell j hj
        rw [if_pos hj] at this
        have hne : w.heap.size + 1 ≠ B := by omega
        exact cell_set_ne (cell_set_ne (cell_set_ne (cell_set_ne (cell_set_ne this (Or.inl hne)) (Or.inl hne)) (Or.inl hne)) (Or.inl hne)) (Or.inl hne)
end Go.Proofs.Ytfphhlodfieopaa
