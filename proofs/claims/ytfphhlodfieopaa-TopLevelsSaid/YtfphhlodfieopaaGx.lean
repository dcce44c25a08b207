/- Contracts of Compress, CompressedOf. Conditions: none. -/
import Derived.Test.YtfphhlodfieopaaGw
import Derived.Laws.ResultCell
namespace Go.Proofs.Ytfphhlodfieopaa
open Go.RowKit
open Fl Fr

theorem px_ret2 {fn : Func} {t u : Tmp} (hr : fn.results = #[.cell t 42, .tmp u]) (W : World) (tmps : Array Value) (B : Nat) (v0 v1 v2 v3 : Value) (e0 : W.cell? ⟨B, 0, none⟩ = some v0) (e1 : W.cell? ⟨B, 1, none⟩ = some v1) (e2 : W.cell? ⟨B, 2, none⟩ = some v2) (e3 : W.cell? ⟨B, 3, none⟩ = some v3)
    (ht : tmps[t]?.getD undef = .pointer (some ⟨B, 0, none⟩)) : (results fn tmps).run Try.prog W = .ok (.tuple #[.agg #[v0, v1, v2, v3], tmps.getD u undef]) W := by
  simp [results, hr, go_sem, ht, e0, e1, e2, e3]
  try rfl

theorem cells_set4 {W : World} {B : Nat} {v0 v1 v2 v3 u0 u1 u2 u3 : Value} (r0 : W.cell? ⟨B, 0, none⟩ = some u0) (r1 : W.cell? ⟨B, 1, none⟩ = some u1) (r2 : W.cell? ⟨B, 2, none⟩ = some u2) (r3 : W.cell? ⟨B, 3, none⟩ = some u3) :
    ((((W.setCell ⟨B, 0, none⟩ v0).setCell ⟨B, 1, none⟩ v1).setCell ⟨B, 2, none⟩ v2).setCell ⟨B, 3, none⟩ v3).cell? ⟨B, 0, none⟩ = some v0 ∧
    ((((W.setCell ⟨B, 0, none⟩ v0).setCell ⟨B, 1, none⟩ v1).setCell ⟨B, 2, none⟩ v2).setCell ⟨B, 3, none⟩ v3).cell? ⟨B, 1, none⟩ = some v1 ∧
    ((((W.setCell ⟨B, 0, none⟩ v0).setCell ⟨B, 1, none⟩ v1).setCell ⟨B, 2, none⟩ v2).setCell ⟨B, 3, none⟩ v3).cell? ⟨B, 2, none⟩ = some v2 ∧
    ((((W.setCell ⟨B, 0, none⟩ v0).setCell ⟨B, 1, none⟩ v1).setCell ⟨B, 2, none⟩ v2).setCell ⟨B, 3, none⟩ v3).cell? ⟨B, 3, none⟩ = some v3 :=
  ⟨cell_set_ne (cell_set_ne (cell_set_ne (cell_set_eq r0) (by omega)) (by omega)) (by omega), cell_set_ne (cell_set_ne (cell_set_eq (cell_set_ne r1 (by omega))) (by omega)) (by omega),
   cell_set_ne (cell_set_eq (cell_set_ne (cell_set_ne r2 (by omega)) (by omega))) (by omega), cell_set_eq (cell_set_ne (cell_set_ne (cell_set_ne r3 (by omega)) (by omega)) (by omega))⟩

theorem three_px (p0 p1 p2 p3 : Nat) (g : FuncId) (caps : Array Value) (F : Int → Nat → Nat) (w : World)
    (hg : ∀ args w, (callFunc g args).run Try.prog w = .ok (.enter g args) w)
    (hf : ∀ (c : Int) (v : Nat) (wr : World), 0 ≤ c → c < 3 → Kept None' w wr → Calls Try.prog g (#[.int .i64 c, .float .f32 v] ++ caps) wr fun e w'' => ∃ r, e = .returned (.float .f32 r) ∧ cl .f32 r = F c v ∧ Kept None' wr w'') :
    Calls Try.prog 66 #[.agg #[.float .f32 p0, .float .f32 p1, .float .f32 p2, .float .f32 p3], .func (.func g) #[] caps] w fun e w' =>
      e = .returned (.agg #[.float .f32 (F 0 p0), .float .f32 (F 1 p1), .float .f32 (F 2 p2), .float .f32 (cl .f32 p3)]) ∧ Grown w w' := by
  have h := three_gen None' (fun _ _ => True) (fun c => if c = 0 then p0 else if c = 1 then p1 else p2) p3 g caps (fun c => F c (if c = 0 then p0 else if c = 1 then p1 else p2)) w (fun _ h => h.elim) (fun _ _ _ _ _ => trivial) trivial hg
    (fun c wr h0 h1 hk _ => (hf c _ wr h0 h1 hk).mono fun e w'' ⟨r, a, b, d⟩ => ⟨r, a, b, d, trivial⟩)
  exact h.mono fun e w' ⟨a, b, _⟩ => ⟨a, b.toGrown⟩

theorem three_compress (p0 p1 p2 p3 a fr : Nat) (st : Bool) (pa ps pf : Nat) (w : World) (ha : w.cell? ⟨pa, 0, none⟩ = some (.float .f32 a)) (hs : w.cell? ⟨ps, 0, none⟩ = some (.bool st)) (hf : w.cell? ⟨pf, 0, none⟩ = some (.float .f32 fr)) :
    Calls Try.prog 66 #[.agg #[.float .f32 p0, .float .f32 p1, .float .f32 p2, .float .f32 p3], .func (.func 67) #[] #[.pointer (some ⟨pa, 0, none⟩), .pointer (some ⟨ps, 0, none⟩), .pointer (some ⟨pf, 0, none⟩)]] w fun e w' =>
      e = .returned (.agg #[.float .f32 (cmpP a p0 fr st), .float .f32 (cmpP a p1 fr st), .float .f32 (cmpP a p2 fr st), .float .f32 (cl .f32 p3)]) ∧ Grown w w' :=
  three_px p0 p1 p2 p3 67 #[.pointer (some ⟨pa, 0, none⟩), .pointer (some ⟨ps, 0, none⟩), .pointer (some ⟨pf, 0, none⟩)] (fun _ v => cmpP a v fr st) w Try.call67
    (fun c v wr _ _ hk => (compress1_any c v a fr st pa ps pf wr (hk.some ha (fun x => x)) (hk.some hs (fun x => x)) (hk.some hf (fun x => x))).mono fun e w'' ⟨r, n, a, b, d⟩ => ⟨r, a, b, by rw [d]; exact (Kept.refl _ _).drew n⟩)

def maxP (p0 p1 p2 : Nat) : Nat :=
  if FloatKind.f32.format.order p2 (if FloatKind.f32.format.order p1 p0 == some .gt then p1 else p0) == some .gt then p2 else if FloatKind.f32.format.order p1 p0 == some .gt then p1 else p0
def staysP (p0 p1 p2 : Nat) : Bool := !(FloatKind.f32.format.order (maxP p0 p1 p2) 0 == some .gt) || (!isN p0 || !isN p1 || !isN p2)

set_option linter.unusedSimpArgs false in
set_option maxHeartbeats 8000000 in
set_option maxRecDepth 100000 in
theorem compress_any (p0 p1 p2 p3 fr : Nat) (w : World) :
    Calls Try.prog 20 #[.agg #[.float .f32 p0, .float .f32 p1, .float .f32 p2, .float .f32 p3], .float .f32 fr] w fun e w' =>
      e = .returned (if isN fr then if FloatKind.f32.format.order fr 0 == some .lt || (FloatKind.f32.format.order fr 1065353216 == some .gt || FloatKind.f32.format.order fr 1065353216 == some .eq) then .tuple #[.agg #[.float .f32 0, .float .f32 0, .float .f32 0, .float .f32 0], .int .i64 3]
          else .tuple #[.agg #[.float .f32 (cmpP (maxP p0 p1 p2) p0 fr (staysP p0 p1 p2)), .float .f32 (cmpP (maxP p0 p1 p2) p1 fr (staysP p0 p1 p2)), .float .f32 (cmpP (maxP p0 p1 p2) p2 fr (staysP p0 p1 p2)), .float .f32 (cl .f32 p3)], .int .i64 0]
        else .tuple #[.agg #[.float .f32 0, .float .f32 0, .float .f32 0, .float .f32 0], .int .i64 2]) ∧ Grown w w' := by
  cases hn : isN fr with
  | false =>
    go_enter Try.func20, Try.ntmps20
    go_wp2_with (first
      | (go_at_call 64; refine (isnum_any _ _).mono ?_; rintro e w' ⟨rfl, rfl⟩)
      | fail)
    go_returns
    exact ⟨rfl, by go_grown⟩
  | true =>
    cases hl : FloatKind.f32.format.order fr 0 == some .lt with
    | true =>
      go_enter Try.func20, Try.ntmps20
      go_wp2_with (first
        | (go_at_call 64; refine (isnum_any _ _).mono ?_; rintro e w' ⟨rfl, rfl⟩)
        | fail)
      go_returns
      exact ⟨rfl, by go_grown⟩
    | false =>
      cases hge : (FloatKind.f32.format.order fr 1065353216 == some .gt || FloatKind.f32.format.order fr 1065353216 == some .eq) with
      | true =>
        go_enter Try.func20, Try.ntmps20
        go_wp2_with (first
          | (go_at_call 64; refine (isnum_any _ _).mono ?_; rintro e w' ⟨rfl, rfl⟩)
          | fail)
        go_returns
        exact ⟨rfl, by go_grown⟩
      | false =>
        unfold staysP maxP
        cases h1 : FloatKind.f32.format.order p1 p0 == some .gt with
        | false =>
          simp only [if_true, Bool.false_eq_true, if_false, Bool.false_or]
          cases h2 : FloatKind.f32.format.order p2 p0 == some .gt with
          | false =>
            simp only [if_true, Bool.false_eq_true, if_false, Bool.false_or]
            cases h3 : FloatKind.f32.format.order p0 0 == some .gt with
            | false =>
              simp only [Bool.not_true, Bool.not_false, Bool.false_or, Bool.true_or]
              go_enter Try.func20, Try.ntmps20
              go_wp2_with (first
                | (go_at_call 64; refine (isnum_any _ _).mono ?_; rintro e w' ⟨rfl, rfl⟩)
                | fail)
              refine wp_loop_rounds 3 ?_
              repeat
                rw [rounds_succ]
                go_wp2_with (first
                  | (go_at_call 65; refine (allnum3_any _ _ p0 p1 p2 _ (by go_simp) (by go_simp) (by go_simp)).mono ?_; rintro e w' ⟨rfl, rfl⟩)
                  | (go_at_call 66
                     refine (three_compress p0 p1 p2 p3 p0 fr true _ _ _ _ (by go_simp) (by go_simp) (by go_simp)).mono ?_
                     rintro e w4 ⟨rfl, hG⟩
                     have r0 : w4.cell? ⟨w.heap.size + 1 + 1, 0, none⟩ = some (.float .f32 0) := grown_cell_some hG (by go_simp)
                     have r1 : w4.cell? ⟨w.heap.size + 1 + 1, 1, none⟩ = some (.float .f32 0) := grown_cell_some hG (by go_simp)
                     have r2 : w4.cell? ⟨w.heap.size + 1 + 1, 2, none⟩ = some (.float .f32 0) := grown_cell_some hG (by go_simp)
                     have r3 : w4.cell? ⟨w.heap.size + 1 + 1, 3, none⟩ = some (.float .f32 0) := grown_cell_some hG (by go_simp)
                     have z : ∀ j, w4.frozen? ⟨w.heap.size + 1 + 1, j, none⟩ = false := fun j => (hG.2.1 _).trans (by simp only [frozen?_alloc_cells, World.frozen?_setCell]; exact frozen_new _ _ (by simp; omega))
                     have z0 := z 0
                     have z1 := z 1
                     have z2 := z 2
                     have z3 := z 3
                     have HG := Lib.hid hG
                     clear hG z)
                  | fail)
              
              (try simp only [Exit.inBlock, Exit.then])
              have hw := grown_trans (by go_grown : Grown w _) HG.out
              have cs := cells_set4 (v0 := .float .f32 (cmpP p0 p0 fr true)) (v1 := .float .f32 (cmpP p0 p1 fr true)) (v2 := .float .f32 (cmpP p0 p2 fr true)) (v3 := .float .f32 (cl .f32 p3)) r0 r1 r2 r3
              refine bodyPost_ret (px_ret2 Try.results20 _ _ (w.heap.size + 1 + 1) _ _ _ _ cs.1 cs.2.1 cs.2.2.1 cs.2.2.2 rfl) rfl ?_
              exact ⟨rfl, by go_grown⟩
            | true =>
              simp only [Bool.not_true, Bool.not_false, Bool.false_or, Bool.true_or]
              go_enter Try.func20, Try.ntmps20
              go_wp2_with (first
                | (go_at_call 64; refine (isnum_any _ _).mono ?_; rintro e w' ⟨rfl, rfl⟩)
                | fail)
              refine wp_loop_rounds 3 ?_
              repeat
                rw [rounds_succ]
                go_wp2_with (first
                  | (go_at_call 65; refine (allnum3_any _ _ p0 p1 p2 _ (by go_simp) (by go_simp) (by go_simp)).mono ?_; rintro e w' ⟨rfl, rfl⟩)
                  | (go_at_call 66
                     refine (three_compress p0 p1 p2 p3 p0 fr (!isN p0 || !isN p1 || !isN p2) _ _ _ _ (by go_simp) (by go_simp) (by go_simp)).mono ?_
                     rintro e w4 ⟨rfl, hG⟩
                     have r0 : w4.cell? ⟨w.heap.size + 1 + 1, 0, none⟩ = some (.float .f32 0) := grown_cell_some hG (by go_simp)
                     have r1 : w4.cell? ⟨w.heap.size + 1 + 1, 1, none⟩ = some (.float .f32 0) := grown_cell_some hG (by go_simp)
                     have r2 : w4.cell? ⟨w.heap.size + 1 + 1, 2, none⟩ = some (.float .f32 0) := grown_cell_some hG (by go_simp)
                     have r3 : w4.cell? ⟨w.heap.size + 1 + 1, 3, none⟩ = some (.float .f32 0) := grown_cell_some hG (by go_simp)
                     have z : ∀ j, w4.frozen? ⟨w.heap.size + 1 + 1, j, none⟩ = false := fun j => (hG.2.1 _).trans (by simp only [frozen?_alloc_cells, World.frozen?_setCell]; exact frozen_new _ _ (by simp; omega))
                     have z0 := z 0
                     have z1 := z 1
                     have z2 := z 2
                     have z3 := z 3
                     have HG := Lib.hid hG
                     clear hG z)
                  | fail)
              
              (try simp only [Exit.inBlock, Exit.then])
              have hw := grown_trans (by go_grown : Grown w _) HG.out
              have cs := cells_set4 (v0 := .float .f32 (cmpP p0 p0 fr (!isN p0 || !isN p1 || !isN p2))) (v1 := .float .f32 (cmpP p0 p1 fr (!isN p0 || !isN p1 || !isN p2))) (v2 := .float .f32 (cmpP p0 p2 fr (!isN p0 || !isN p1 || !isN p2))) (v3 := .float .f32 (cl .f32 p3)) r0 r1 r2 r3
              refine bodyPost_ret (px_ret2 Try.results20 _ _ (w.heap.size + 1 + 1) _ _ _ _ cs.1 cs.2.1 cs.2.2.1 cs.2.2.2 rfl) rfl ?_
              exact ⟨rfl, by go_grown⟩
          | true =>
            simp only [if_true, Bool.false_eq_true, if_false, Bool.false_or]
            cases h3 : FloatKind.f32.format.order p2 0 == some .gt with
            | false =>
              simp only [Bool.not_true, Bool.not_false, Bool.false_or, Bool.true_or]
              go_enter Try.func20, Try.ntmps20
              go_wp2_with (first
                | (go_at_call 64; refine (isnum_any _ _).mono ?_; rintro e w' ⟨rfl, rfl⟩)
                | fail)
              refine wp_loop_rounds 3 ?_
              repeat
                rw [rounds_succ]
                go_wp2_with (first
                  | (go_at_call 65; refine (allnum3_any _ _ p0 p1 p2 _ (by go_simp) (by go_simp) (by go_simp)).mono ?_; rintro e w' ⟨rfl, rfl⟩)
                  | (go_at_call 66
                     refine (three_compress p0 p1 p2 p3 p2 fr true _ _ _ _ (by go_simp) (by go_simp) (by go_simp)).mono ?_
                     rintro e w4 ⟨rfl, hG⟩
                     have r0 : w4.cell? ⟨w.heap.size + 1 + 1, 0, none⟩ = some (.float .f32 0) := grown_cell_some hG (by go_simp)
                     have r1 : w4.cell? ⟨w.heap.size + 1 + 1, 1, none⟩ = some (.float .f32 0) := grown_cell_some hG (by go_simp)
                     have r2 : w4.cell? ⟨w.heap.size + 1 + 1, 2, none⟩ = some (.float .f32 0) := grown_cell_some hG (by go_simp)
                     have r3 : w4.cell? ⟨w.heap.size + 1 + 1, 3, none⟩ = some (.float .f32 0) := grown_cell_some hG (by go_simp)
                     have z : ∀ j, w4.frozen? ⟨w.heap.size + 1 + 1, j, none⟩ = false := fun j => (hG.2.1 _).trans (by simp only [frozen?_alloc_cells, World.frozen?_setCell]; exact frozen_new _ _ (by simp; omega))
                     have z0 := z 0
                     have z1 := z 1
                     have z2 := z 2
                     have z3 := z 3
                     have HG := Lib.hid hG
                     clear hG z)
                  | fail)
              
              (try simp only [Exit.inBlock, Exit.then])
              have hw := grown_trans (by go_grown : Grown w _) HG.out
              have cs := cells_set4 (v0 := .float .f32 (cmpP p2 p0 fr true)) (v1 := .float .f32 (cmpP p2 p1 fr true)) (v2 := .float .f32 (cmpP p2 p2 fr true)) (v3 := .float .f32 (cl .f32 p3)) r0 r1 r2 r3
              refine bodyPost_ret (px_ret2 Try.results20 _ _ (w.heap.size + 1 + 1) _ _ _ _ cs.1 cs.2.1 cs.2.2.1 cs.2.2.2 rfl) rfl ?_
              exact ⟨rfl, by go_grown⟩
            | true =>
              simp only [Bool.not_true, Bool.not_false, Bool.false_or, Bool.true_or]
              go_enter Try.func20, Try.ntmps20
              go_wp2_with (first
                | (go_at_call 64; refine (isnum_any _ _).mono ?_; rintro e w' ⟨rfl, rfl⟩)
                | fail)
              refine wp_loop_rounds 3 ?_
              repeat
                rw [rounds_succ]
                go_wp2_with (first
                  | (go_at_call 65; refine (allnum3_any _ _ p0 p1 p2 _ (by go_simp) (by go_simp) (by go_simp)).mono ?_; rintro e w' ⟨rfl, rfl⟩)
                  | (go_at_call 66
                     refine (three_compress p0 p1 p2 p3 p2 fr (!isN p0 || !isN p1 || !isN p2) _ _ _ _ (by go_simp) (by go_simp) (by go_simp)).mono ?_
                     rintro e w4 ⟨rfl, hG⟩
                     have r0 : w4.cell? ⟨w.heap.size + 1 + 1, 0, none⟩ = some (.float .f32 0) := grown_cell_some hG (by go_simp)
                     have r1 : w4.cell? ⟨w.heap.size + 1 + 1, 1, none⟩ = some (.float .f32 0) := grown_cell_some hG (by go_simp)
                     have r2 : w4.cell? ⟨w.heap.size + 1 + 1, 2, none⟩ = some (.float .f32 0) := grown_cell_some hG (by go_simp)
                     have r3 : w4.cell? ⟨w.heap.size + 1 + 1, 3, none⟩ = some (.float .f32 0) := grown_cell_some hG (by go_simp)
                     have z : ∀ j, w4.frozen? ⟨w.heap.size + 1 + 1, j, none⟩ = false := fun j => (hG.2.1 _).trans (by simp only [frozen?_alloc_cells, World.frozen?_setCell]; exact frozen_new _ _ (by simp; omega))
                     have z0 := z 0
                     have z1 := z 1
                     have z2 := z 2
                     have z3 := z 3
                     have HG := Lib.hid hG
                     clear hG z)
                  | fail)
              
              (try simp only [Exit.inBlock, Exit.then])
              have hw := grown_trans (by go_grown : Grown w _) HG.out
              have cs := cells_set4 (v0 := .float .f32 (cmpP p2 p0 fr (!isN p0 || !isN p1 || !isN p2))) (v1 := .float .f32 (cmpP p2 p1 fr (!isN p0 || !isN p1 || !isN p2))) (v2 := .float .f32 (cmpP p2 p2 fr (!isN p0 || !isN p1 || !isN p2))) (v3 := .float .f32 (cl .f32 p3)) r0 r1 r2 r3
              refine bodyPost_ret (px_ret2 Try.results20 _ _ (w.heap.size + 1 + 1) _ _ _ _ cs.1 cs.2.1 cs.2.2.1 cs.2.2.2 rfl) rfl ?_
              exact ⟨rfl, by go_grown⟩
        | true =>
          simp only [if_true, Bool.false_eq_true, if_false, Bool.false_or]
          cases h2 : FloatKind.f32.format.order p2 p1 == some .gt with
          | false =>
            simp only [if_true, Bool.false_eq_true, if_false, Bool.false_or]
            cases h3 : FloatKind.f32.format.order p1 0 == some .gt with
            | false =>
              simp only [Bool.not_true, Bool.not_false, Bool.false_or, Bool.true_or]
              go_enter Try.func20, Try.ntmps20
              go_wp2_with (first
                | (go_at_call 64; refine (isnum_any _ _).mono ?_; rintro e w' ⟨rfl, rfl⟩)
                | fail)
              refine wp_loop_rounds 3 ?_
              repeat
                rw [rounds_succ]
                go_wp2_with (first
                  | (go_at_call 65; refine (allnum3_any _ _ p0 p1 p2 _ (by go_simp) (by go_simp) (by go_simp)).mono ?_; rintro e w' ⟨rfl, rfl⟩)
                  | (go_at_call 66
                     refine (three_compress p0 p1 p2 p3 p1 fr true _ _ _ _ (by go_simp) (by go_simp) (by go_simp)).mono ?_
                     rintro e w4 ⟨rfl, hG⟩
                     have r0 : w4.cell? ⟨w.heap.size + 1 + 1, 0, none⟩ = some (.float .f32 0) := grown_cell_some hG (by go_simp)
                     have r1 : w4.cell? ⟨w.heap.size + 1 + 1, 1, none⟩ = some (.float .f32 0) := grown_cell_some hG (by go_simp)
                     have r2 : w4.cell? ⟨w.heap.size + 1 + 1, 2, none⟩ = some (.float .f32 0) := grown_cell_some hG (by go_simp)
                     have r3 : w4.cell? ⟨w.heap.size + 1 + 1, 3, none⟩ = some (.float .f32 0) := grown_cell_some hG (by go_simp)
                     have z : ∀ j, w4.frozen? ⟨w.heap.size + 1 + 1, j, none⟩ = false := fun j => (hG.2.1 _).trans (by simp only [frozen?_alloc_cells, World.frozen?_setCell]; exact frozen_new _ _ (by simp; omega))
                     have z0 := z 0
                     have z1 := z 1
                     have z2 := z 2
                     have z3 := z 3
                     have HG := Lib.hid hG
                     clear hG z)
                  | fail)
              
              (try simp only [Exit.inBlock, Exit.then])
              have hw := grown_trans (by go_grown : Grown w _) HG.out
              have cs := cells_set4 (v0 := .float .f32 (cmpP p1 p0 fr true)) (v1 := .float .f32 (cmpP p1 p1 fr true)) (v2 := .float .f32 (cmpP p1 p2 fr true)) (v3 := .float .f32 (cl .f32 p3)) r0 r1 r2 r3
              refine bodyPost_ret (px_ret2 Try.results20 _ _ (w.heap.size + 1 + 1) _ _ _ _ cs.1 cs.2.1 cs.2.2.1 cs.2.2.2 rfl) rfl ?_
              exact ⟨rfl, by go_grown⟩
            | true =>
              simp only [Bool.not_true, Bool.not_false, Bool.false_or, Bool.true_or]
              go_enter Try.func20, Try.ntmps20
              go_wp2_with (first
                | (go_at_call 64; refine (isnum_any _ _).mono ?_; rintro e w' ⟨rfl, rfl⟩)
                | fail)
              refine wp_loop_rounds 3 ?_
              repeat
                rw [rounds_succ]
                go_wp2_with (first
                  | (go_at_call 65; refine (allnum3_any _ _ p0 p1 p2 _ (by go_simp) (by go_simp) (by go_simp)).mono ?_; rintro e w' ⟨rfl, rfl⟩)
                  | (go_at_call 66
                     refine (three_compress p0 p1 p2 p3 p1 fr (!isN p0 || !isN p1 || !isN p2) _ _ _ _ (by go_simp) (by go_simp) (by go_simp)).mono ?_
                     rintro e w4 ⟨rfl, hG⟩
                     have r0 : w4.cell? ⟨w.heap.size + 1 + 1, 0, none⟩ = some (.float .f32 0) := grown_cell_some hG (by go_simp)
                     have r1 : w4.cell? ⟨w.heap.size + 1 + 1, 1, none⟩ = some (.float .f32 0) := grown_cell_some hG (by go_simp)
                     have r2 : w4.cell? ⟨w.heap.size + 1 + 1, 2, none⟩ = some (.float .f32 0) := grown_cell_some hG (by go_simp)
                     have r3 : w4.cell? ⟨w.heap.size + 1 + 1, 3, none⟩ = some (.float .f32 0) := grown_cell_some hG (by go_simp)
                     have z : ∀ j, w4.frozen? ⟨w.heap.size + 1 + 1, j, none⟩ = false := fun j => (hG.2.1 _).trans (by simp only [frozen?_alloc_cells, World.frozen?_setCell]; exact frozen_new _ _ (by simp; omega))
                     have z0 := z 0
                     have z1 := z 1
                     have z2 := z 2
                     have z3 := z 3
                     have HG := Lib.hid hG
                     clear hG z)
                  | fail)
              
              (try simp only [Exit.inBlock, Exit.then])
              have hw := grown_trans (by go_grown : Grown w _) HG.out
              have cs := cells_set4 (v0 := .float .f32 (cmpP p1 p0 fr (!isN p0 || !isN p1 || !isN p2))) (v1 := .float .f32 (cmpP p1 p1 fr (!isN p0 || !isN p1 || !isN p2))) (v2 := .float .f32 (cmpP p1 p2 fr (!isN p0 || !isN p1 || !isN p2))) (v3 := .float .f32 (cl .f32 p3)) r0 r1 r2 r3
              refine bodyPost_ret (px_ret2 Try.results20 _ _ (w.heap.size + 1 + 1) _ _ _ _ cs.1 cs.2.1 cs.2.2.1 cs.2.2.2 rfl) rfl ?_
              exact ⟨rfl, by go_grown⟩
          | true =>
            simp only [if_true, Bool.false_eq_true, if_false, Bool.false_or]
            cases h3 : FloatKind.f32.format.order p2 0 == some .gt with
            | false =>
              simp only [Bool.not_true, Bool.not_false, Bool.false_or, Bool.true_or]
              go_enter Try.func20, Try.ntmps20
              go_wp2_with (first
                | (go_at_call 64; refine (isnum_any _ _).mono ?_; rintro e w' ⟨rfl, rfl⟩)
                | fail)
              refine wp_loop_rounds 3 ?_
              repeat
                rw [rounds_succ]
                go_wp2_with (first
                  | (go_at_call 65; refine (allnum3_any _ _ p0 p1 p2 _ (by go_simp) (by go_simp) (by go_simp)).mono ?_; rintro e w' ⟨rfl, rfl⟩)
                  | (go_at_call 66
                     refine (three_compress p0 p1 p2 p3 p2 fr true _ _ _ _ (by go_simp) (by go_simp) (by go_simp)).mono ?_
                     rintro e w4 ⟨rfl, hG⟩
                     have r0 : w4.cell? ⟨w.heap.size + 1 + 1, 0, none⟩ = some (.float .f32 0) := grown_cell_some hG (by go_simp)
                     have r1 : w4.cell? ⟨w.heap.size + 1 + 1, 1, none⟩ = some (.float .f32 0) := grown_cell_some hG (by go_simp)
                     have r2 : w4.cell? ⟨w.heap.size + 1 + 1, 2, none⟩ = some (.float .f32 0) := grown_cell_some hG (by go_simp)
                     have r3 : w4.cell? ⟨w.heap.size + 1 + 1, 3, none⟩ = some (.float .f32 0) := grown_cell_some hG (by go_simp)
                     have z : ∀ j, w4.frozen? ⟨w.heap.size + 1 + 1, j, none⟩ = false := fun j => (hG.2.1 _).trans (by simp only [frozen?_alloc_cells, World.frozen?_setCell]; exact frozen_new _ _ (by simp; omega))
                     have z0 := z 0
                     have z1 := z 1
                     have z2 := z 2
                     have z3 := z 3
                     have HG := Lib.hid hG
                     clear hG z)
                  | fail)
              
              (try simp only [Exit.inBlock, Exit.then])
              have hw := grown_trans (by go_grown : Grown w _) HG.out
              have cs := cells_set4 (v0 := .float .f32 (cmpP p2 p0 fr true)) (v1 := .float .f32 (cmpP p2 p1 fr true)) (v2 := .float .f32 (cmpP p2 p2 fr true)) (v3 := .float .f32 (cl .f32 p3)) r0 r1 r2 r3
              refine bodyPost_ret (px_ret2 Try.results20 _ _ (w.heap.size + 1 + 1) _ _ _ _ cs.1 cs.2.1 cs.2.2.1 cs.2.2.2 rfl) rfl ?_
              exact ⟨rfl, by go_grown⟩
            | true =>
              simp only [Bool.not_true, Bool.not_false, Bool.false_or, Bool.true_or]
              go_enter Try.func20, Try.ntmps20
              go_wp2_with (first
                | (go_at_call 64; refine (isnum_any _ _).mono ?_; rintro e w' ⟨rfl, rfl⟩)
                | fail)
              refine wp_loop_rounds 3 ?_
              repeat
                rw [rounds_succ]
                go_wp2_with (first
                  | (go_at_call 65; refine (allnum3_any _ _ p0 p1 p2 _ (by go_simp) (by go_simp) (by go_simp)).mono ?_; rintro e w' ⟨rfl, rfl⟩)
                  | (go_at_call 66
                     refine (three_compress p0 p1 p2 p3 p2 fr (!isN p0 || !isN p1 || !isN p2) _ _ _ _ (by go_simp) (by go_simp) (by go_simp)).mono ?_
                     rintro e w4 ⟨rfl, hG⟩
                     have r0 : w4.cell? ⟨w.heap.size + 1 + 1, 0, none⟩ = some (.float .f32 0) := grown_cell_some hG (by go_simp)
                     have r1 : w4.cell? ⟨w.heap.size + 1 + 1, 1, none⟩ = some (.float .f32 0) := grown_cell_some hG (by go_simp)
                     have r2 : w4.cell? ⟨w.heap.size + 1 + 1, 2, none⟩ = some (.float .f32 0) := grown_cell_some hG (by go_simp)
                     have r3 : w4.cell? ⟨w.heap.size + 1 + 1, 3, none⟩ = some (.float .f32 0) := grown_cell_some hG (by go_simp)
                     have z : ∀ j, w4.frozen? ⟨w.heap.size + 1 + 1, j, none⟩ = false := fun j => (hG.2.1 _).trans (by simp only [frozen?_alloc_cells, World.frozen?_setCell]; exact frozen_new _ _ (by simp; omega))
                     have z0 := z 0
                     have z1 := z 1
                     have z2 := z 2
                     have z3 := z 3
                     have HG := Lib.hid hG
                     clear hG z)
                  | fail)
              
              (try simp only [Exit.inBlock, Exit.then])
              have hw := grown_trans (by go_grown : Grown w _) HG.out
              have cs := cells_set4 (v0 := .float .f32 (cmpP p2 p0 fr (!isN p0 || !isN p1 || !isN p2))) (v1 := .float .f32 (cmpP p2 p1 fr (!isN p0 || !isN p1 || !isN p2))) (v2 := .float .f32 (cmpP p2 p2 fr (!isN p0 || !isN p1 || !isN p2))) (v3 := .float .f32 (cl .f32 p3)) r0 r1 r2 r3
              refine bodyPost_ret (px_ret2 Try.results20 _ _ (w.heap.size + 1 + 1) _ _ _ _ cs.1 cs.2.1 cs.2.2.1 cs.2.2.2 rfl) rfl ?_
              exact ⟨rfl, by go_grown⟩
end Go.Proofs.Ytfphhlodfieopaa
