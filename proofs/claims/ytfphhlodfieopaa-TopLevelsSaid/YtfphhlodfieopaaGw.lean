/- Contracts of Compress, Clip and of those of the reference. Conditions: none. -/
import Derived.Test.YtfphhlodfieopaaIs
import Derived.Test.YtfphhlodfieopaaTw
import Derived.Deep.RegionHeld3
namespace Go.Proofs.Ytfphhlodfieopaa
open Go.RowKit
open Fl Fr

theorem isN_cl (b : Nat) : isN (cl .f32 b) = isN b := by
  cases h : nan .f32 b with
  | true => rw [cl_nan h, isN_nan h, isN_nan (nan_qn _)]
  | false => rw [cl_not h]
theorem isN_fV (op : BinOp) (x y : Nat) (w : World) : isN (fV op .f32 x y w) = isN (fC op .f32 x y) := by rw [← isN_cl, cl_fV']
theorem cl_isN {b : Nat} (h : isN b = true) : cl .f32 b = b := cl_not (isN_not h)

def cmpD (a v : Nat) : Nat := fC .quo .f32 (fC .sub .f32 a v) a
def cmpX (a v fr : Nat) : Nat := fC .quo .f32 (fC .sub .f32 (cmpD a v) fr) (fC .sub .f32 1065353216 fr)
def cmpY (a v fr : Nat) : Nat := if isN (cmpX a v fr) then fC .quo .f32 (cmpX a v fr) (fC .add .f32 1065353216 (cmpX a v fr)) else 1065353216
def cmpR (a fr y : Nat) : Nat := fC .sub .f32 a (fC .mul .f32 (fC .add .f32 fr (fC .mul .f32 (fC .sub .f32 1065353216 fr) y)) a)
def cmpP (a v fr : Nat) (st : Bool) : Nat :=
  if st || !(FloatKind.f32.format.order (cmpD a v) fr == some .gt) then cl .f32 v else cmpR a fr (cmpY a v fr)
theorem cmp_gt {a v fr : Nat} {b : Bool} (h : (FloatKind.f32.format.order (cmpD a v) fr == some .gt) = b) (w1 w2 : World) :
    (FloatKind.f32.format.order (fV .quo .f32 (fV .sub .f32 a v w1) a w2) fr == some .gt) = b := by rw [order_fV_l, fC_fV_l]; exact h
theorem cmp_is {a v fr : Nat} {b : Bool} (h : isN (cmpX a v fr) = b) (w1 w2 w3 w4 w5 : World) :
    isN (fV .quo .f32 (fV .sub .f32 (fV .quo .f32 (fV .sub .f32 a v w1) a w2) fr w3) (fV .sub .f32 1065353216 fr w4) w5) = b := by
  rw [isN_fV, fC_fV_l, fC_fV_r, fC_fV_l, fC_fV_l]; exact h

set_option maxHeartbeats 1000000 in
set_option maxRecDepth 100000 in
theorem compress1_any (c : Int) (v a fr : Nat) (st : Bool) (pa ps pf : Nat) (w : World) (ha : w.cell? ⟨pa, 0, none⟩ = some (.float .f32 a)) (hs : w.cell? ⟨ps, 0, none⟩ = some (.bool st)) (hf : w.cell? ⟨pf, 0, none⟩ = some (.float .f32 fr)) :
    Calls Try.prog 67 #[.int .i64 c, .float .f32 v, .pointer (some ⟨pa, 0, none⟩), .pointer (some ⟨ps, 0, none⟩), .pointer (some ⟨pf, 0, none⟩)] w fun e w' =>
      ∃ r n, e = .returned (.float .f32 r) ∧ cl .f32 r = cmpP a v fr st ∧ w' = w.drewN n := by
  unfold cmpP
  cases st with
  | true =>
    go_enter Try.func67, Try.ntmps67
    go_wp2
    go_ret
    exact ⟨v, rfl, rfl, _, rfl⟩
  | false =>
    cases hg : FloatKind.f32.format.order (cmpD a v) fr == some .gt with
    | false =>
      have h1 := fun w1 w2 => cmp_gt hg w1 w2
      clear hg
      go_enter Try.func67, Try.ntmps67
      go_wp2_with fail
      go_ret
      exact ⟨v, rfl, rfl, _, rfl⟩
    | true =>
      have h1 := fun w1 w2 => cmp_gt hg w1 w2
      clear hg
      unfold cmpY
      cases hx : isN (cmpX a v fr)
      all_goals
        have h2 := fun w1 w2 w3 w4 w5 => cmp_is hx w1 w2 w3 w4 w5
        clear hx
        go_enter Try.func67, Try.ntmps67
        go_wp2_with (go_at_call 64; refine (isnum_any _ _).mono ?_; rintro e w' ⟨rfl, rfl⟩)
        go_ret
        refine ⟨_, rfl, ?_, _, rfl⟩
        simp [cmpR, cmpX, cmpD, cl_fV', fC_fV_l, fC_fV_r]

def cmpZ (a v fr : Nat) : Nat := if FloatKind.f32.format.order (cmpX a v fr) 2139095039 == some .gt then 1065353216 else fC .quo .f32 (cmpX a v fr) (fC .add .f32 1065353216 (cmpX a v fr))
def cmpQ (a fr v : Nat) : Nat := if FloatKind.f32.format.order (cmpD a v) fr == some .gt then cmpR a fr (cmpZ a v fr) else v
theorem cmp_big {a v fr : Nat} {b : Bool} (h : (FloatKind.f32.format.order (cmpX a v fr) 2139095039 == some .gt) = b) (w1 w2 w3 w4 w5 : World) :
    (FloatKind.f32.format.order (fV .quo .f32 (fV .sub .f32 (fV .quo .f32 (fV .sub .f32 a v w1) a w2) fr w3) (fV .sub .f32 1065353216 fr w4) w5) 2139095039 == some .gt) = b := by
  rw [order_fV_l, fC_fV_l, fC_fV_r, fC_fV_l, fC_fV_l]; exact h
set_option maxHeartbeats 1000000 in
set_option maxRecDepth 100000 in
theorem compressedof1_any (v a fr : Nat) (pa pf : Nat) (w : World) (ha : w.cell? ⟨pa, 0, none⟩ = some (.float .f32 a)) (hf : w.cell? ⟨pf, 0, none⟩ = some (.float .f32 fr)) :
    Calls Try.prog 69 #[.float .f32 v, .pointer (some ⟨pa, 0, none⟩), .pointer (some ⟨pf, 0, none⟩)] w fun e w' =>
      e = .returned (.float .f32 (cmpQ a fr v)) ∧ ∃ n, w' = w.drewN n := by
  unfold cmpQ
  cases hg : FloatKind.f32.format.order (cmpD a v) fr == some .gt with
  | false =>
    have h1 := fun w1 w2 => cmp_gt hg w1 w2
    clear hg
    go_enter Try.func69, Try.ntmps69
    go_wp2_with fail
    go_ret
    exact ⟨rfl, _, rfl⟩
  | true =>
    have h1 := fun w1 w2 => cmp_gt hg w1 w2
    clear hg
    unfold cmpZ
    cases hx : FloatKind.f32.format.order (cmpX a v fr) 2139095039 == some .gt
    all_goals
      have h2 := fun w1 w2 w3 w4 w5 => cmp_big hx w1 w2 w3 w4 w5
      clear hx
      go_enter Try.func69, Try.ntmps69
      go_wp2_with (go_at_call 25; refine (fix_any _ _).mono ?_; rintro e w' ⟨rfl, rfl⟩)
      go_ret
      exact ⟨by simp [cmpR, cmpX, cmpD, cl_fV', fC_fV_l, fC_fV_r], _, rfl⟩

def Plain (g : FuncId) (caps : Array Value) (F : Nat → Nat) (w : World) : Prop :=
  ∀ (v : Nat) (wr : World), Kept None' w wr → Calls Try.prog g (#[.float .f32 v] ++ caps) wr fun e w'' => e = .returned (.float .f32 (F v)) ∧ Kept None' wr w''

/-- What a cell holds. -/
def rd (w : World) (a : Addr) : Value := (w.cell? a).getD undef
theorem rd_of {w : World} {a : Addr} {v : Value} (h : w.cell? a = some v) : w.cell? a = some (rd w a) := by unfold rd; rw [h]; rfl

/-- In w' the two blocks that each lays stand as it laid them, but for what it wrote into the second. -/
def eachS (w : World) (p0 p1 p2 p3 : Nat) (w' : World) : Prop :=
  Kept (fun i => i = w.heap.size + 1) ((w.alloc (.cells #[.float .f32 p0, .float .f32 p1, .float .f32 p2, .float .f32 p3] 42)).alloc (.cells #[.float .f32 0, .float .f32 0, .float .f32 0, .float .f32 0] 42)) w' ∧
  w'.cell? ⟨w.heap.size, 0, none⟩ = some (.float .f32 p0) ∧
  w'.cell? ⟨w.heap.size, 1, none⟩ = some (.float .f32 p1) ∧
  w'.cell? ⟨w.heap.size, 2, none⟩ = some (.float .f32 p2) ∧
  w'.cell? ⟨w.heap.size, 3, none⟩ = some (.float .f32 p3) ∧
  w'.cell? ⟨w.heap.size + 1, 0, none⟩ = some (rd w' ⟨w.heap.size + 1, 0, none⟩) ∧
  w'.cell? ⟨w.heap.size + 1, 1, none⟩ = some (rd w' ⟨w.heap.size + 1, 1, none⟩) ∧
  w'.cell? ⟨w.heap.size + 1, 2, none⟩ = some (rd w' ⟨w.heap.size + 1, 2, none⟩) ∧
  w'.cell? ⟨w.heap.size + 1, 3, none⟩ = some (rd w' ⟨w.heap.size + 1, 3, none⟩) ∧
  w'.frozen? ⟨w.heap.size + 1, 0, none⟩ = false ∧
  w'.frozen? ⟨w.heap.size + 1, 1, none⟩ = false ∧
  w'.frozen? ⟨w.heap.size + 1, 2, none⟩ = false ∧
  w'.frozen? ⟨w.heap.size + 1, 3, none⟩ = false
theorem eachS_of {w : World} {p0 p1 p2 p3 : Nat} {w' : World} (h : Kept (fun i => i = w.heap.size + 1) ((w.alloc (.cells #[.float .f32 p0, .float .f32 p1, .float .f32 p2, .float .f32 p3] 42)).alloc (.cells #[.float .f32 0, .float .f32 0, .float .f32 0, .float .f32 0] 42)) w')
    (hr : ∀ j, j < 4 → ∃ v, w'.cell? ⟨w.heap.size + 1, j, none⟩ = some v) : eachS w p0 p1 p2 p3 w' := by
  have nB : ¬ (fun i => i = w.heap.size + 1) w.heap.size := by simp
  have z : ∀ a : Addr, w.heap.size ≤ a.block → w'.frozen? a = false := fun a ha => (h.frozen a).trans ((frozen?_alloc_cells _ _ _ _).trans ((frozen?_alloc_cells _ _ _ _).trans (frozen_new _ _ ha)))
  refine ⟨h, ?_, ?_, ?_, ?_, ?_, ?_, ?_, ?_, z _ (by simp), z _ (by simp), z _ (by simp), z _ (by simp)⟩
  · exact h.some (by rw [cell_alloc_two]; rfl) nB
  · exact h.some (by rw [cell_alloc_two]; rfl) nB
  · exact h.some (by rw [cell_alloc_two]; rfl) nB
  · exact h.some (by rw [cell_alloc_two]; rfl) nB
  · obtain ⟨v, hv⟩ := hr 0 (by omega); exact rd_of hv
  · obtain ⟨v, hv⟩ := hr 1 (by omega); exact rd_of hv
  · obtain ⟨v, hv⟩ := hr 2 (by omega); exact rd_of hv
  · obtain ⟨v, hv⟩ := hr 3 (by omega); exact rd_of hv
theorem four {P : Nat → Prop} (h0 : P 0) (h1 : P 1) (h2 : P 2) (h3 : P 3) : ∀ j, j < 4 → P j := fun j hj => by
  match j, hj with
  | 0, _ => exact h0
  | 1, _ => exact h1
  | 2, _ => exact h2
  | 3, _ => exact h3
theorem eachS_some {w : World} {p0 p1 p2 p3 : Nat} {a : World} (h : eachS w p0 p1 p2 p3 a) : ∀ j, j < 4 → ∃ v, a.cell? ⟨w.heap.size + 1, j, none⟩ = some v :=
  four ⟨_, h.2.2.2.2.2.1⟩ ⟨_, h.2.2.2.2.2.2.1⟩ ⟨_, h.2.2.2.2.2.2.2.1⟩ ⟨_, h.2.2.2.2.2.2.2.2.1⟩
theorem eachS_first (w : World) (p0 p1 p2 p3 n : Nat) : eachS w p0 p1 p2 p3 (((w.alloc (.cells #[.float .f32 p0, .float .f32 p1, .float .f32 p2, .float .f32 p3] 42)).alloc (.cells #[.float .f32 0, .float .f32 0, .float .f32 0, .float .f32 0] 42)).drewN n) :=
  eachS_of ((Kept.refl _ _).drew n) (four ⟨_, by show World.cell? _ _ = _; exact (cell_alloc_snd _ _ _ _ 0)⟩ ⟨_, cell_alloc_snd _ _ _ _ 1⟩ ⟨_, cell_alloc_snd _ _ _ _ 2⟩ ⟨_, cell_alloc_snd _ _ _ _ 3⟩)
theorem eachS_step {w : World} {p0 p1 p2 p3 : Nat} {a b : World} (h : eachS w p0 p1 p2 p3 a) (k : Kept None' a b) : eachS w p0 p1 p2 p3 b :=
  eachS_of (h.1.trans (k.mono fun _ _ x => x.elim)) (fun j hj => by obtain ⟨v, hv⟩ := eachS_some h j hj; exact ⟨v, k.some hv (fun x => x)⟩)
theorem eachS_set {w : World} {p0 p1 p2 p3 : Nat} {a : World} (h : eachS w p0 p1 p2 p3 a) (k : Nat) (v : Value) : eachS w p0 p1 p2 p3 (a.setCell ⟨w.heap.size + 1, k, none⟩ v) :=
  eachS_of (h.1.setCell (Or.inr rfl) v) (fun j hj => by
    obtain ⟨u, hu⟩ := eachS_some h j hj
    by_cases hk : k = j
    · subst hk; exact ⟨_, cell_set_eq hu⟩
    · exact ⟨_, cell_set_ne hu (Or.inr hk)⟩)
theorem eachS_old {w : World} {p0 p1 p2 p3 : Nat} {a : World} (h : eachS w p0 p1 p2 p3 a) : Kept None' w a := by
  have h1 := (((Kept.refl (fun i => i = w.heap.size + 1) w).alloc _ _).alloc _ _).trans h.1
  exact h1.mono fun i hi x => by omega

set_option maxHeartbeats 2000000 in
set_option maxRecDepth 100000 in
theorem each_gen (p0 p1 p2 p3 : Nat) (g : FuncId) (caps : Array Value) (F : Nat → Nat) (w : World)
    (hg : ∀ args w, (callFunc g args).run Try.prog w = .ok (.enter g args) w) (hf : Plain g caps F w) :
    Calls Try.prog 68 #[.agg #[.float .f32 p0, .float .f32 p1, .float .f32 p2, .float .f32 p3], .func (.func g) #[] caps] w fun e w' =>
      e = .returned (.agg #[.float .f32 (F p0), .float .f32 (F p1), .float .f32 (F p2), .float .f32 (cl .f32 p3)]) ∧ Grown w w' := by
  have HF := Lib.hid hf
  clear hf
  go_enter Try.func68, Try.ntmps68
  go_wp2_with fail
  go_region_held3 (fun w' => Kept (fun i => i = w.heap.size + 1) ((w.alloc (.cells #[.float .f32 p0, .float .f32 p1, .float .f32 p2, .float .f32 p3] 42)).alloc (.cells #[.float .f32 0, .float .f32 0, .float .f32 0, .float .f32 0] 42)) w' ∧
  w'.cell? ⟨w.heap.size, 0, none⟩ = some (.float .f32 p0) ∧
  w'.cell? ⟨w.heap.size, 1, none⟩ = some (.float .f32 p1) ∧
  w'.cell? ⟨w.heap.size, 2, none⟩ = some (.float .f32 p2) ∧
  w'.cell? ⟨w.heap.size, 3, none⟩ = some (.float .f32 p3) ∧
  w'.cell? ⟨w.heap.size + 1, 0, none⟩ = some (rd w' ⟨w.heap.size + 1, 0, none⟩) ∧
  w'.cell? ⟨w.heap.size + 1, 1, none⟩ = some (rd w' ⟨w.heap.size + 1, 1, none⟩) ∧
  w'.cell? ⟨w.heap.size + 1, 2, none⟩ = some (rd w' ⟨w.heap.size + 1, 2, none⟩) ∧
  w'.cell? ⟨w.heap.size + 1, 3, none⟩ = some (rd w' ⟨w.heap.size + 1, 3, none⟩) ∧
  w'.frozen? ⟨w.heap.size + 1, 0, none⟩ = false ∧
  w'.frozen? ⟨w.heap.size + 1, 1, none⟩ = false ∧
  w'.frozen? ⟨w.heap.size + 1, 2, none⟩ = false ∧
  w'.frozen? ⟨w.heap.size + 1, 3, none⟩ = false)
    (first
      | exact eachS_first _ _ _ _ _ 1
      | exact eachS_step ‹_ ∧ _› ‹Kept None' _ _›
      | exact eachS_set (eachS_set (eachS_set (eachS_set ‹_ ∧ _› _ _) _ _) _ _) _ _
      | assumption)
    (first
      | (go_simp; refine (HF.out _ _ (eachS_old ‹_ ∧ _›)).mono ?_; rintro e w' ⟨rfl, hk⟩)
      | (go_simp; go_at_call 25; refine (fix_any _ _).mono ?_; rintro e w' ⟨rfl, rfl⟩))
  rename_i w1 k1 w2 k2 hh
  have HS := Lib.hid (eachS_step (eachS_step (eachS_step (eachS_first w p0 p1 p2 p3 1) k1) k2) hk)
  clear hh k1 k2 hk
  go_wp2_with fail
  (try simp only [Exit.inBlock, Exit.then])
  obtain ⟨v0, e0⟩ := eachS_some HS.out 0 (by omega)
  obtain ⟨v1, e1⟩ := eachS_some HS.out 1 (by omega)
  obtain ⟨v2, e2⟩ := eachS_some HS.out 2 (by omega)
  obtain ⟨v3, e3⟩ := eachS_some HS.out 3 (by omega)
  refine bodyPost_ret (px_ret (by exact Try.results68) _ _ (w.heap.size + 1) (.float .f32 (F p0)) (.float .f32 (F p1)) (.float .f32 (F p2)) (.float .f32 (cl .f32 p3)) ?_ ?_ ?_ ?_ rfl) rfl ?_
  · exact cell_set_ne (cell_set_ne (cell_set_ne (cell_set_eq e0) (by omega)) (by omega)) (by omega)
  · exact cell_set_ne (cell_set_ne (cell_set_eq (cell_set_ne e1 (by omega))) (by omega)) (by omega)
  · exact cell_set_ne (cell_set_eq (cell_set_ne (cell_set_ne e2 (by omega)) (by omega))) (by omega)
  · exact cell_set_eq (cell_set_ne (cell_set_ne (cell_set_ne e3 (by omega)) (by omega)) (by omega))
  · exact ⟨rfl, (eachS_old (eachS_set (eachS_set (eachS_set (eachS_set HS.out _ _) _ _) _ _) _ _)).toGrown⟩
end Go.Proofs.Ytfphhlodfieopaa
