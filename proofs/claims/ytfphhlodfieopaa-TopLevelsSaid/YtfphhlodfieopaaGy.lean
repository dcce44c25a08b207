/- The contract of CompressedOf. Conditions: none. -/
import Derived.Test.YtfphhlodfieopaaGx
namespace Go.Proofs.Ytfphhlodfieopaa
open Go.RowKit
open Fl Fr

theorem each_fix (p0 p1 p2 p3 : Nat) (w : World) :
    Calls Try.prog 68 #[.agg #[.float .f32 p0, .float .f32 p1, .float .f32 p2, .float .f32 p3], .func (.func 25) #[] #[]] w fun e w' =>
      e = .returned (.agg #[.float .f32 (cl .f32 p0), .float .f32 (cl .f32 p1), .float .f32 (cl .f32 p2), .float .f32 (cl .f32 p3)]) ∧ Grown w w' :=
  each_gen p0 p1 p2 p3 25 #[] (fun v => cl .f32 v) w Try.call25
    (fun v wr _ => (fix_any v wr).mono fun e w'' ⟨a, b⟩ => ⟨a, by rw [← b]; exact Kept.refl _ _⟩)
theorem each_cmp (p0 p1 p2 p3 a fr : Nat) (pa pf : Nat) (w : World) (ha : w.cell? ⟨pa, 0, none⟩ = some (.float .f32 a)) (hf : w.cell? ⟨pf, 0, none⟩ = some (.float .f32 fr)) :
    Calls Try.prog 68 #[.agg #[.float .f32 p0, .float .f32 p1, .float .f32 p2, .float .f32 p3], .func (.func 69) #[] #[.pointer (some ⟨pa, 0, none⟩), .pointer (some ⟨pf, 0, none⟩)]] w fun e w' =>
      e = .returned (.agg #[.float .f32 (cmpQ a fr p0), .float .f32 (cmpQ a fr p1), .float .f32 (cmpQ a fr p2), .float .f32 (cl .f32 p3)]) ∧ Grown w w' :=
  each_gen p0 p1 p2 p3 69 #[.pointer (some ⟨pa, 0, none⟩), .pointer (some ⟨pf, 0, none⟩)] (fun v => cmpQ a fr v) w Try.call69
    (fun v wr hk => (compressedof1_any v a fr pa pf wr (hk.some ha (fun x => x)) (hk.some hf (fun x => x))).mono fun e w'' ⟨x, n, d⟩ => ⟨x, by rw [d]; exact (Kept.refl _ _).drew n⟩)

theorem frozen_drewN (w : World) (n : Nat) (a : Addr) : (w.drewN n).frozen? a = w.frozen? a := rfl
def refQ (p0 p1 p2 fr v : Nat) : Nat := if staysP p0 p1 p2 then cl .f32 v else cmpQ (maxP p0 p1 p2) fr v

set_option linter.unusedSimpArgs false in
set_option maxHeartbeats 16000000 in
set_option maxRecDepth 100000 in
theorem compressedof_any (p0 p1 p2 p3 fr : Nat) (w : World) :
    Calls Try.prog 23 #[.agg #[.float .f32 p0, .float .f32 p1, .float .f32 p2, .float .f32 p3], .float .f32 fr] w fun e w' =>
      e = .returned (.agg #[.float .f32 (refQ p0 p1 p2 fr p0), .float .f32 (refQ p0 p1 p2 fr p1), .float .f32 (refQ p0 p1 p2 fr p2), .float .f32 (cl .f32 p3)]) ∧ Grown w w' := by
  unfold refQ staysP maxP
  cases h1 : FloatKind.f32.format.order p1 p0 == some .gt with
  | false =>
    simp only [if_true, Bool.false_eq_true, if_false, Bool.false_or]
    cases h2 : FloatKind.f32.format.order p2 p0 == some .gt with
    | false =>
      simp only [if_true, Bool.false_eq_true, if_false, Bool.false_or]
      cases h3 : FloatKind.f32.format.order p0 0 == some .gt with
      | false =>
        simp only [Bool.not_true, Bool.not_false, Bool.false_or, Bool.true_or, Bool.or_true, Bool.or_false, if_true, Bool.false_eq_true, if_false]
        go_enter Try.func23, Try.ntmps23
        go_wp2_with fail
        refine wp_loop_rounds 3 ?_
        repeat
          rw [rounds_succ]
          go_wp2_with (first
            | (go_at_call 21; refine (isnumof_any _ _).mono ?_; rintro e w' ⟨rfl, n, rfl⟩)
            | (go_at_call 68
               refine (each_fix p0 p1 p2 p3 _).mono ?_
               rintro e w4 ⟨rfl, hG⟩
               have r0 : w4.cell? ⟨w.heap.size + 1 + 1, 0, none⟩ = some (.float .f32 0) := grown_cell_some hG (by go_simp)
               have r1 : w4.cell? ⟨w.heap.size + 1 + 1, 1, none⟩ = some (.float .f32 0) := grown_cell_some hG (by go_simp)
               have r2 : w4.cell? ⟨w.heap.size + 1 + 1, 2, none⟩ = some (.float .f32 0) := grown_cell_some hG (by go_simp)
               have r3 : w4.cell? ⟨w.heap.size + 1 + 1, 3, none⟩ = some (.float .f32 0) := grown_cell_some hG (by go_simp)
               have z : ∀ j, w4.frozen? ⟨w.heap.size + 1 + 1, j, none⟩ = false := fun j => (hG.2.1 _).trans (by simp only [frozen_drewN, frozen?_alloc_cells, World.frozen?_setCell]; exact frozen_new _ _ (by simp; omega))
               have z0 := z 0
               have z1 := z 1
               have z2 := z 2
               have z3 := z 3
               have HG := Lib.hid hG
               clear hG z)
            | fail)
        
        (try simp only [Exit.inBlock, Exit.then])
        have hw := grown_trans (by repeat' (first | (with_reducible refine grown_drewN ?_ _) | go_grown) : Grown w _) HG.out
        have cs := cells_set4 (v0 := .float .f32 (cl .f32 p0)) (v1 := .float .f32 (cl .f32 p1)) (v2 := .float .f32 (cl .f32 p2)) (v3 := .float .f32 (cl .f32 p3)) r0 r1 r2 r3
        refine bodyPost_ret (px_ret Try.results23 _ _ (w.heap.size + 1 + 1) _ _ _ _ cs.1 cs.2.1 cs.2.2.1 cs.2.2.2 rfl) rfl ?_
        exact ⟨rfl, by go_grown⟩
      | true =>
        cases i0 : isN p0 with
        | false =>
          simp only [Bool.not_true, Bool.not_false, Bool.false_or, Bool.true_or, Bool.or_true, Bool.or_false, if_true, Bool.false_eq_true, if_false]
          go_enter Try.func23, Try.ntmps23
          go_wp2_with fail
          refine wp_loop_rounds 3 ?_
          repeat
            rw [rounds_succ]
            go_wp2_with (first
              | (go_at_call 21; refine (isnumof_any _ _).mono ?_; rintro e w' ⟨rfl, n, rfl⟩)
              | (go_at_call 68
                 refine (each_fix p0 p1 p2 p3 _).mono ?_
                 rintro e w4 ⟨rfl, hG⟩
                 have r0 : w4.cell? ⟨w.heap.size + 1 + 1, 0, none⟩ = some (.float .f32 0) := grown_cell_some hG (by go_simp)
                 have r1 : w4.cell? ⟨w.heap.size + 1 + 1, 1, none⟩ = some (.float .f32 0) := grown_cell_some hG (by go_simp)
                 have r2 : w4.cell? ⟨w.heap.size + 1 + 1, 2, none⟩ = some (.float .f32 0) := grown_cell_some hG (by go_simp)
                 have r3 : w4.cell? ⟨w.heap.size + 1 + 1, 3, none⟩ = some (.float .f32 0) := grown_cell_some hG (by go_simp)
                 have z : ∀ j, w4.frozen? ⟨w.heap.size + 1 + 1, j, none⟩ = false := fun j => (hG.2.1 _).trans (by simp only [frozen_drewN, frozen?_alloc_cells, World.frozen?_setCell]; exact frozen_new _ _ (by simp; omega))
                 have z0 := z 0
                 have z1 := z 1
                 have z2 := z 2
                 have z3 := z 3
                 have HG := Lib.hid hG
                 clear hG z)
              | fail)
          
          (try simp only [Exit.inBlock, Exit.then])
          have hw := grown_trans (by repeat' (first | (with_reducible refine grown_drewN ?_ _) | go_grown) : Grown w _) HG.out
          have cs := cells_set4 (v0 := .float .f32 (cl .f32 p0)) (v1 := .float .f32 (cl .f32 p1)) (v2 := .float .f32 (cl .f32 p2)) (v3 := .float .f32 (cl .f32 p3)) r0 r1 r2 r3
          refine bodyPost_ret (px_ret Try.results23 _ _ (w.heap.size + 1 + 1) _ _ _ _ cs.1 cs.2.1 cs.2.2.1 cs.2.2.2 rfl) rfl ?_
          exact ⟨rfl, by go_grown⟩
        | true =>
          cases i1 : isN p1 with
          | false =>
            simp only [Bool.not_true, Bool.not_false, Bool.false_or, Bool.true_or, Bool.or_true, Bool.or_false, if_true, Bool.false_eq_true, if_false]
            go_enter Try.func23, Try.ntmps23
            go_wp2_with fail
            refine wp_loop_rounds 3 ?_
            repeat
              rw [rounds_succ]
              go_wp2_with (first
                | (go_at_call 21; refine (isnumof_any _ _).mono ?_; rintro e w' ⟨rfl, n, rfl⟩)
                | (go_at_call 68
                   refine (each_fix p0 p1 p2 p3 _).mono ?_
                   rintro e w4 ⟨rfl, hG⟩
                   have r0 : w4.cell? ⟨w.heap.size + 1 + 1, 0, none⟩ = some (.float .f32 0) := grown_cell_some hG (by go_simp)
                   have r1 : w4.cell? ⟨w.heap.size + 1 + 1, 1, none⟩ = some (.float .f32 0) := grown_cell_some hG (by go_simp)
                   have r2 : w4.cell? ⟨w.heap.size + 1 + 1, 2, none⟩ = some (.float .f32 0) := grown_cell_some hG (by go_simp)
                   have r3 : w4.cell? ⟨w.heap.size + 1 + 1, 3, none⟩ = some (.float .f32 0) := grown_cell_some hG (by go_simp)
                   have z : ∀ j, w4.frozen? ⟨w.heap.size + 1 + 1, j, none⟩ = false := fun j => (hG.2.1 _).trans (by simp only [frozen_drewN, frozen?_alloc_cells, World.frozen?_setCell]; exact frozen_new _ _ (by simp; omega))
                   have z0 := z 0
                   have z1 := z 1
                   have z2 := z 2
                   have z3 := z 3
                   have HG := Lib.hid hG
                   clear hG z)
                | fail)
            
            (try simp only [Exit.inBlock, Exit.then])
            have hw := grown_trans (by repeat' (first | (with_reducible refine grown_drewN ?_ _) | go_grown) : Grown w _) HG.out
            have cs := cells_set4 (v0 := .float .f32 (cl .f32 p0)) (v1 := .float .f32 (cl .f32 p1)) (v2 := .float .f32 (cl .f32 p2)) (v3 := .float .f32 (cl .f32 p3)) r0 r1 r2 r3
            refine bodyPost_ret (px_ret Try.results23 _ _ (w.heap.size + 1 + 1) _ _ _ _ cs.1 cs.2.1 cs.2.2.1 cs.2.2.2 rfl) rfl ?_
            exact ⟨rfl, by go_grown⟩
          | true =>
            cases i2 : isN p2 with
            | false =>
              simp only [Bool.not_true, Bool.not_false, Bool.false_or, Bool.true_or, Bool.or_true, Bool.or_false, if_true, Bool.false_eq_true, if_false]
              go_enter Try.func23, Try.ntmps23
              go_wp2_with fail
              refine wp_loop_rounds 3 ?_
              repeat
                rw [rounds_succ]
                go_wp2_with (first
                  | (go_at_call 21; refine (isnumof_any _ _).mono ?_; rintro e w' ⟨rfl, n, rfl⟩)
                  | (go_at_call 68
                     refine (each_fix p0 p1 p2 p3 _).mono ?_
                     rintro e w4 ⟨rfl, hG⟩
                     have r0 : w4.cell? ⟨w.heap.size + 1 + 1, 0, none⟩ = some (.float .f32 0) := grown_cell_some hG (by go_simp)
                     have r1 : w4.cell? ⟨w.heap.size + 1 + 1, 1, none⟩ = some (.float .f32 0) := grown_cell_some hG (by go_simp)
                     have r2 : w4.cell? ⟨w.heap.size + 1 + 1, 2, none⟩ = some (.float .f32 0) := grown_cell_some hG (by go_simp)
                     have r3 : w4.cell? ⟨w.heap.size + 1 + 1, 3, none⟩ = some (.float .f32 0) := grown_cell_some hG (by go_simp)
                     have z : ∀ j, w4.frozen? ⟨w.heap.size + 1 + 1, j, none⟩ = false := fun j => (hG.2.1 _).trans (by simp only [frozen_drewN, frozen?_alloc_cells, World.frozen?_setCell]; exact frozen_new _ _ (by simp; omega))
                     have z0 := z 0
                     have z1 := z 1
                     have z2 := z 2
                     have z3 := z 3
                     have HG := Lib.hid hG
                     clear hG z)
                  | fail)
              
              (try simp only [Exit.inBlock, Exit.then])
              have hw := grown_trans (by repeat' (first | (with_reducible refine grown_drewN ?_ _) | go_grown) : Grown w _) HG.out
              have cs := cells_set4 (v0 := .float .f32 (cl .f32 p0)) (v1 := .float .f32 (cl .f32 p1)) (v2 := .float .f32 (cl .f32 p2)) (v3 := .float .f32 (cl .f32 p3)) r0 r1 r2 r3
              refine bodyPost_ret (px_ret Try.results23 _ _ (w.heap.size + 1 + 1) _ _ _ _ cs.1 cs.2.1 cs.2.2.1 cs.2.2.2 rfl) rfl ?_
              exact ⟨rfl, by go_grown⟩
            | true =>
              simp only [Bool.not_true, Bool.not_false, Bool.false_or, Bool.true_or, Bool.or_true, Bool.or_false, if_true, Bool.false_eq_true, if_false]
              go_enter Try.func23, Try.ntmps23
              go_wp2_with fail
              refine wp_loop_rounds 3 ?_
              repeat
                rw [rounds_succ]
                go_wp2_with (first
                  | (go_at_call 21; refine (isnumof_any _ _).mono ?_; rintro e w' ⟨rfl, n, rfl⟩)
                  | (go_at_call 68
                     refine (each_cmp p0 p1 p2 p3 p0 fr _ _ _ (by go_simp) (by go_simp)).mono ?_
                     rintro e w4 ⟨rfl, hG⟩
                     have r0 : w4.cell? ⟨w.heap.size + 1 + 1, 0, none⟩ = some (.float .f32 0) := grown_cell_some hG (by go_simp)
                     have r1 : w4.cell? ⟨w.heap.size + 1 + 1, 1, none⟩ = some (.float .f32 0) := grown_cell_some hG (by go_simp)
                     have r2 : w4.cell? ⟨w.heap.size + 1 + 1, 2, none⟩ = some (.float .f32 0) := grown_cell_some hG (by go_simp)
                     have r3 : w4.cell? ⟨w.heap.size + 1 + 1, 3, none⟩ = some (.float .f32 0) := grown_cell_some hG (by go_simp)
                     have z : ∀ j, w4.frozen? ⟨w.heap.size + 1 + 1, j, none⟩ = false := fun j => (hG.2.1 _).trans (by simp only [frozen_drewN, frozen?_alloc_cells, World.frozen?_setCell]; exact frozen_new _ _ (by simp; omega))
                     have z0 := z 0
                     have z1 := z 1
                     have z2 := z 2
                     have z3 := z 3
                     have HG := Lib.hid hG
                     clear hG z)
                  | fail)
              
              (try simp only [Exit.inBlock, Exit.then])
              have hw := grown_trans (by repeat' (first | (with_reducible refine grown_drewN ?_ _) | go_grown) : Grown w _) HG.out
              have cs := cells_set4 (v0 := .float .f32 (cmpQ p0 fr p0)) (v1 := .float .f32 (cmpQ p0 fr p1)) (v2 := .float .f32 (cmpQ p0 fr p2)) (v3 := .float .f32 (cl .f32 p3)) r0 r1 r2 r3
              refine bodyPost_ret (px_ret Try.results23 _ _ (w.heap.size + 1 + 1) _ _ _ _ cs.1 cs.2.1 cs.2.2.1 cs.2.2.2 rfl) rfl ?_
              exact ⟨rfl, by go_grown⟩
    | true =>
      simp only [if_true, Bool.false_eq_true, if_false, Bool.false_or]
      cases h3 : FloatKind.f32.format.order p2 0 == some .gt with
      | false =>
        simp only [Bool.not_true, Bool.not_false, Bool.false_or, Bool.true_or, Bool.or_true, Bool.or_false, if_true, Bool.false_eq_true, if_false]
        go_enter Try.func23, Try.ntmps23
        go_wp2_with fail
        refine wp_loop_rounds 3 ?_
        repeat
          rw [rounds_succ]
          go_wp2_with (first
            | (go_at_call 21; refine (isnumof_any _ _).mono ?_; rintro e w' ⟨rfl, n, rfl⟩)
            | (go_at_call 68
               refine (each_fix p0 p1 p2 p3 _).mono ?_
               rintro e w4 ⟨rfl, hG⟩
               have r0 : w4.cell? ⟨w.heap.size + 1 + 1, 0, none⟩ = some (.float .f32 0) := grown_cell_some hG (by go_simp)
               have r1 : w4.cell? ⟨w.heap.size + 1 + 1, 1, none⟩ = some (.float .f32 0) := grown_cell_some hG (by go_simp)
               have r2 : w4.cell? ⟨w.heap.size + 1 + 1, 2, none⟩ = some (.float .f32 0) := grown_cell_some hG (by go_simp)
               have r3 : w4.cell? ⟨w.heap.size + 1 + 1, 3, none⟩ = some (.float .f32 0) := grown_cell_some hG (by go_simp)
               have z : ∀ j, w4.frozen? ⟨w.heap.size + 1 + 1, j, none⟩ = false := fun j => (hG.2.1 _).trans (by simp only [frozen_drewN, frozen?_alloc_cells, World.frozen?_setCell]; exact frozen_new _ _ (by simp; omega))
               have z0 := z 0
               have z1 := z 1
               have z2 := z 2
               have z3 := z 3
               have HG := Lib.hid hG
               clear hG z)
            | fail)
        
        (try simp only [Exit.inBlock, Exit.then])
        have hw := grown_trans (by repeat' (first | (with_reducible refine grown_drewN ?_ _) | go_grown) : Grown w _) HG.out
        have cs := cells_set4 (v0 := .float .f32 (cl .f32 p0)) (v1 := .float .f32 (cl .f32 p1)) (v2 := .float .f32 (cl .f32 p2)) (v3 := .float .f32 (cl .f32 p3)) r0 r1 r2 r3
        refine bodyPost_ret (px_ret Try.results23 _ _ (w.heap.size + 1 + 1) _ _ _ _ cs.1 cs.2.1 cs.2.2.1 cs.2.2.2 rfl) rfl ?_
        exact ⟨rfl, by go_grown⟩
      | true =>
        cases i0 : isN p0 with
        | false =>
          simp only [Bool.not_true, Bool.not_false, Bool.false_or, Bool.true_or, Bool.or_true, Bool.or_false, if_true, Bool.false_eq_true, if_false]
          go_enter Try.func23, Try.ntmps23
          go_wp2_with fail
          refine wp_loop_rounds 3 ?_
          repeat
            rw [rounds_succ]
            go_wp2_with (first
              | (go_at_call 21; refine (isnumof_any _ _).mono ?_; rintro e w' ⟨rfl, n, rfl⟩)
              | (go_at_call 68
                 refine (each_fix p0 p1 p2 p3 _).mono ?_
                 rintro e w4 ⟨rfl, hG⟩
                 have r0 : w4.cell? ⟨w.heap.size + 1 + 1, 0, none⟩ = some (.float .f32 0) := grown_cell_some hG (by go_simp)
                 have r1 : w4.cell? ⟨w.heap.size + 1 + 1, 1, none⟩ = some (.float .f32 0) := grown_cell_some hG (by go_simp)
                 have r2 : w4.cell? ⟨w.heap.size + 1 + 1, 2, none⟩ = some (.float .f32 0) := grown_cell_some hG (by go_simp)
                 have r3 : w4.cell? ⟨w.heap.size + 1 + 1, 3, none⟩ = some (.float .f32 0) := grown_cell_some hG (by go_simp)
                 have z : ∀ j, w4.frozen? ⟨w.heap.size + 1 + 1, j, none⟩ = false := fun j => (hG.2.1 _).trans (by simp only [frozen_drewN, frozen?_alloc_cells, World.frozen?_setCell]; exact frozen_new _ _ (by simp; omega))
                 have z0 := z 0
                 have z1 := z 1
                 have z2 := z 2
                 have z3 := z 3
                 have HG := Lib.hid hG
                 clear hG z)
              | fail)
          
          (try simp only [Exit.inBlock, Exit.then])
          have hw := grown_trans (by repeat' (first | (with_reducible refine grown_drewN ?_ _) | go_grown) : Grown w _) HG.out
          have cs := cells_set4 (v0 := .float .f32 (cl .f32 p0)) (v1 := .float .f32 (cl .f32 p1)) (v2 := .float .f32 (cl .f32 p2)) (v3 := .float .f32 (cl .f32 p3)) r0 r1 r2 r3
          refine bodyPost_ret (px_ret Try.results23 _ _ (w.heap.size + 1 + 1) _ _ _ _ cs.1 cs.2.1 cs.2.2.1 cs.2.2.2 rfl) rfl ?_
          exact ⟨rfl, by go_grown⟩
        | true =>
          cases i1 : isN p1 with
          | false =>
            simp only [Bool.not_true, Bool.not_false, Bool.false_or, Bool.true_or, Bool.or_true, Bool.or_false, if_true, Bool.false_eq_true, if_false]
            go_enter Try.func23, Try.ntmps23
            go_wp2_with fail
            refine wp_loop_rounds 3 ?_
            repeat
              rw [rounds_succ]
              go_wp2_with (first
                | (go_at_call 21; refine (isnumof_any _ _).mono ?_; rintro e w' ⟨rfl, n, rfl⟩)
                | (go_at_call 68
                   refine (each_fix p0 p1 p2 p3 _).mono ?_
                   rintro e w4 ⟨rfl, hG⟩
                   have r0 : w4.cell? ⟨w.heap.size + 1 + 1, 0, none⟩ = some (.float .f32 0) := grown_cell_some hG (by go_simp)
                   have r1 : w4.cell? ⟨w.heap.size + 1 + 1, 1, none⟩ = some (.float .f32 0) := grown_cell_some hG (by go_simp)
                   have r2 : w4.cell? ⟨w.heap.size + 1 + 1, 2, none⟩ = some (.float .f32 0) := grown_cell_some hG (by go_simp)
                   have r3 : w4.cell? ⟨w.heap.size + 1 + 1, 3, none⟩ = some (.float .f32 0) := grown_cell_some hG (by go_simp)
                   have z : ∀ j, w4.frozen? ⟨w.heap.size + 1 + 1, j, none⟩ = false := fun j => (hG.2.1 _).trans (by simp only [frozen_drewN, frozen?_alloc_cells, World.frozen?_setCell]; exact frozen_new _ _ (by simp; omega))
                   have z0 := z 0
                   have z1 := z 1
                   have z2 := z 2
                   have z3 := z 3
                   have HG := Lib.hid hG
                   clear hG z)
                | fail)
            
            (try simp only [Exit.inBlock, Exit.then])
            have hw := grown_trans (by repeat' (first | (with_reducible refine grown_drewN ?_ _) | go_grown) : Grown w _) HG.out
            have cs := cells_set4 (v0 := .float .f32 (cl .f32 p0)) (v1 := .float .f32 (cl .f32 p1)) (v2 := .float .f32 (cl .f32 p2)) (v3 := .float .f32 (cl .f32 p3)) r0 r1 r2 r3
            refine bodyPost_ret (px_ret Try.results23 _ _ (w.heap.size + 1 + 1) _ _ _ _ cs.1 cs.2.1 cs.2.2.1 cs.2.2.2 rfl) rfl ?_
            exact ⟨rfl, by go_grown⟩
          | true =>
            cases i2 : isN p2 with
            | false =>
              simp only [Bool.not_true, Bool.not_false, Bool.false_or, Bool.true_or, Bool.or_true, Bool.or_false, if_true, Bool.false_eq_true, if_false]
              go_enter Try.func23, Try.ntmps23
              go_wp2_with fail
              refine wp_loop_rounds 3 ?_
              repeat
                rw [rounds_succ]
                go_wp2_with (first
                  | (go_at_call 21; refine (isnumof_any _ _).mono ?_; rintro e w' ⟨rfl, n, rfl⟩)
                  | (go_at_call 68
                     refine (each_fix p0 p1 p2 p3 _).mono ?_
                     rintro e w4 ⟨rfl, hG⟩
                     have r0 : w4.cell? ⟨w.heap.size + 1 + 1, 0, none⟩ = some (.float .f32 0) := grown_cell_some hG (by go_simp)
                     have r1 : w4.cell? ⟨w.heap.size + 1 + 1, 1, none⟩ = some (.float .f32 0) := grown_cell_some hG (by go_simp)
                     have r2 : w4.cell? ⟨w.heap.size + 1 + 1, 2, none⟩ = some (.float .f32 0) := grown_cell_some hG (by go_simp)
                     have r3 : w4.cell? ⟨w.heap.size + 1 + 1, 3, none⟩ = some (.float .f32 0) := grown_cell_some hG (by go_simp)
                     have z : ∀ j, w4.frozen? ⟨w.heap.size + 1 + 1, j, none⟩ = false := fun j => (hG.2.1 _).trans (by simp only [frozen_drewN, frozen?_alloc_cells, World.frozen?_setCell]; exact frozen_new _ _ (by simp; omega))
                     have z0 := z 0
                     have z1 := z 1
                     have z2 := z 2
                     have z3 := z 3
                     have HG := Lib.hid hG
                     clear hG z)
                  | fail)
              
              (try simp only [Exit.inBlock, Exit.then])
              have hw := grown_trans (by repeat' (first | (with_reducible refine grown_drewN ?_ _) | go_grown) : Grown w _) HG.out
              have cs := cells_set4 (v0 := .float .f32 (cl .f32 p0)) (v1 := .float .f32 (cl .f32 p1)) (v2 := .float .f32 (cl .f32 p2)) (v3 := .float .f32 (cl .f32 p3)) r0 r1 r2 r3
              refine bodyPost_ret (px_ret Try.results23 _ _ (w.heap.size + 1 + 1) _ _ _ _ cs.1 cs.2.1 cs.2.2.1 cs.2.2.2 rfl) rfl ?_
              exact ⟨rfl, by go_grown⟩
            | true =>
              simp only [Bool.not_true, Bool.not_false, Bool.false_or, Bool.true_or, Bool.or_true, Bool.or_false, if_true, Bool.false_eq_true, if_false]
              go_enter Try.func23, Try.ntmps23
              go_wp2_with fail
              refine wp_loop_rounds 3 ?_
              repeat
                rw [rounds_succ]
                go_wp2_with (first
                  | (go_at_call 21; refine (isnumof_any _ _).mono ?_; rintro e w' ⟨rfl, n, rfl⟩)
                  | (go_at_call 68
                     refine (each_cmp p0 p1 p2 p3 p2 fr _ _ _ (by go_simp) (by go_simp)).mono ?_
                     rintro e w4 ⟨rfl, hG⟩
                     have r0 : w4.cell? ⟨w.heap.size + 1 + 1, 0, none⟩ = some (.float .f32 0) := grown_cell_some hG (by go_simp)
                     have r1 : w4.cell? ⟨w.heap.size + 1 + 1, 1, none⟩ = some (.float .f32 0) := grown_cell_some hG (by go_simp)
                     have r2 : w4.cell? ⟨w.heap.size + 1 + 1, 2, none⟩ = some (.float .f32 0) := grown_cell_some hG (by go_simp)
                     have r3 : w4.cell? ⟨w.heap.size + 1 + 1, 3, none⟩ = some (.float .f32 0) := grown_cell_some hG (by go_simp)
                     have z : ∀ j, w4.frozen? ⟨w.heap.size + 1 + 1, j, none⟩ = false := fun j => (hG.2.1 _).trans (by simp only [frozen_drewN, frozen?_alloc_cells, World.frozen?_setCell]; exact frozen_new _ _ (by simp; omega))
                     have z0 := z 0
                     have z1 := z 1
                     have z2 := z 2
                     have z3 := z 3
                     have HG := Lib.hid hG
                     clear hG z)
                  | fail)
              
              (try simp only [Exit.inBlock, Exit.then])
              have hw := grown_trans (by repeat' (first | (with_reducible refine grown_drewN ?_ _) | go_grown) : Grown w _) HG.out
              have cs := cells_set4 (v0 := .float .f32 (cmpQ p2 fr p0)) (v1 := .float .f32 (cmpQ p2 fr p1)) (v2 := .float .f32 (cmpQ p2 fr p2)) (v3 := .float .f32 (cl .f32 p3)) r0 r1 r2 r3
              refine bodyPost_ret (px_ret Try.results23 _ _ (w.heap.size + 1 + 1) _ _ _ _ cs.1 cs.2.1 cs.2.2.1 cs.2.2.2 rfl) rfl ?_
              exact ⟨rfl, by go_grown⟩
  | true =>
    simp only [if_true, Bool.false_eq_true, if_false, Bool.false_or]
    cases h2 : FloatKind.f32.format.order p2 p1 == some .gt with
    | false =>
      simp only [if_true, Bool.false_eq_true, if_false, Bool.false_or]
      cases h3 : FloatKind.f32.format.order p1 0 == some .gt with
      | false =>
        simp only [Bool.not_true, Bool.not_false, Bool.false_or, Bool.true_or, Bool.or_true, Bool.or_false, if_true, Bool.false_eq_true, if_false]
        go_enter Try.func23, Try.ntmps23
        go_wp2_with fail
        refine wp_loop_rounds 3 ?_
        repeat
          rw [rounds_succ]
          go_wp2_with (first
            | (go_at_call 21; refine (isnumof_any _ _).mono ?_; rintro e w' ⟨rfl, n, rfl⟩)
            | (go_at_call 68
               refine (each_fix p0 p1 p2 p3 _).mono ?_
               rintro e w4 ⟨rfl, hG⟩
               have r0 : w4.cell? ⟨w.heap.size + 1 + 1, 0, none⟩ = some (.float .f32 0) := grown_cell_some hG (by go_simp)
               have r1 : w4.cell? ⟨w.heap.size + 1 + 1, 1, none⟩ = some (.float .f32 0) := grown_cell_some hG (by go_simp)
               have r2 : w4.cell? ⟨w.heap.size + 1 + 1, 2, none⟩ = some (.float .f32 0) := grown_cell_some hG (by go_simp)
               have r3 : w4.cell? ⟨w.heap.size + 1 + 1, 3, none⟩ = some (.float .f32 0) := grown_cell_some hG (by go_simp)
               have z : ∀ j, w4.frozen? ⟨w.heap.size + 1 + 1, j, none⟩ = false := fun j => (hG.2.1 _).trans (by simp only [frozen_drewN, frozen?_alloc_cells, World.frozen?_setCell]; exact frozen_new _ _ (by simp; omega))
               have z0 := z 0
               have z1 := z 1
               have z2 := z 2
               have z3 := z 3
               have HG := Lib.hid hG
               clear hG z)
            | fail)
        
        (try simp only [Exit.inBlock, Exit.then])
        have hw := grown_trans (by repeat' (first | (with_reducible refine grown_drewN ?_ _) | go_grown) : Grown w _) HG.out
        have cs := cells_set4 (v0 := .float .f32 (cl .f32 p0)) (v1 := .float .f32 (cl .f32 p1)) (v2 := .float .f32 (cl .f32 p2)) (v3 := .float .f32 (cl .f32 p3)) r0 r1 r2 r3
        refine bodyPost_ret (px_ret Try.results23 _ _ (w.heap.size + 1 + 1) _ _ _ _ cs.1 cs.2.1 cs.2.2.1 cs.2.2.2 rfl) rfl ?_
        exact ⟨rfl, by go_grown⟩
      | true =>
        cases i0 : isN p0 with
        | false =>
          simp only [Bool.not_true, Bool.not_false, Bool.false_or, Bool.true_or, Bool.or_true, Bool.or_false, if_true, Bool.false_eq_true, if_false]
          go_enter Try.func23, Try.ntmps23
          go_wp2_with fail
          refine wp_loop_rounds 3 ?_
          repeat
            rw [rounds_succ]
            go_wp2_with (first
              | (go_at_call 21; refine (isnumof_any _ _).mono ?_; rintro e w' ⟨rfl, n, rfl⟩)
              | (go_at_call 68
                 refine (each_fix p0 p1 p2 p3 _).mono ?_
                 rintro e w4 ⟨rfl, hG⟩
                 have r0 : w4.cell? ⟨w.heap.size + 1 + 1, 0, none⟩ = some (.float .f32 0) := grown_cell_some hG (by go_simp)
                 have r1 : w4.cell? ⟨w.heap.size + 1 + 1, 1, none⟩ = some (.float .f32 0) := grown_cell_some hG (by go_simp)
                 have r2 : w4.cell? ⟨w.heap.size + 1 + 1, 2, none⟩ = some (.float .f32 0) := grown_cell_some hG (by go_simp)
                 have r3 : w4.cell? ⟨w.heap.size + 1 + 1, 3, none⟩ = some (.float .f32 0) := grown_cell_some hG (by go_simp)
                 have z : ∀ j, w4.frozen? ⟨w.heap.size + 1 + 1, j, none⟩ = false := fun j => (hG.2.1 _).trans (by simp only [frozen_drewN, frozen?_alloc_cells, World.frozen?_setCell]; exact frozen_new _ _ (by simp; omega))
                 have z0 := z 0
                 have z1 := z 1
                 have z2 := z 2
                 have z3 := z 3
                 have HG := Lib.hid hG
                 clear hG z)
              | fail)
          
          (try simp only [Exit.inBlock, Exit.then])
          have hw := grown_trans (by repeat' (first | (with_reducible refine grown_drewN ?_ _) | go_grown) : Grown w _) HG.out
          have cs := cells_set4 (v0 := .float .f32 (cl .f32 p0)) (v1 := .float .f32 (cl .f32 p1)) (v2 := .float .f32 (cl .f32 p2)) (v3 := .float .f32 (cl .f32 p3)) r0 r1 r2 r3
          refine bodyPost_ret (px_ret Try.results23 _ _ (w.heap.size + 1 + 1) _ _ _ _ cs.1 cs.2.1 cs.2.2.1 cs.2.2.2 rfl) rfl ?_
          exact ⟨rfl, by go_grown⟩
        | true =>
          cases i1 : isN p1 with
          | false =>
            simp only [Bool.not_true, Bool.not_false, Bool.false_or, Bool.true_or, Bool.or_true, Bool.or_false, if_true, Bool.false_eq_true, if_false]
            go_enter Try.func23, Try.ntmps23
            go_wp2_with fail
            refine wp_loop_rounds 3 ?_
            repeat
              rw [rounds_succ]
              go_wp2_with (first
                | (go_at_call 21; refine (isnumof_any _ _).mono ?_; rintro e w' ⟨rfl, n, rfl⟩)
                | (go_at_call 68
                   refine (each_fix p0 p1 p2 p3 _).mono ?_
                   rintro e w4 ⟨rfl, hG⟩
                   have r0 : w4.cell? ⟨w.heap.size + 1 + 1, 0, none⟩ = some (.float .f32 0) := grown_cell_some hG (by go_simp)
                   have r1 : w4.cell? ⟨w.heap.size + 1 + 1, 1, none⟩ = some (.float .f32 0) := grown_cell_some hG (by go_simp)
                   have r2 : w4.cell? ⟨w.heap.size + 1 + 1, 2, none⟩ = some (.float .f32 0) := grown_cell_some hG (by go_simp)
                   have r3 : w4.cell? ⟨w.heap.size + 1 + 1, 3, none⟩ = some (.float .f32 0) := grown_cell_some hG (by go_simp)
                   have z : ∀ j, w4.frozen? ⟨w.heap.size + 1 + 1, j, none⟩ = false := fun j => (hG.2.1 _).trans (by simp only [frozen_drewN, frozen?_alloc_cells, World.frozen?_setCell]; exact frozen_new _ _ (by simp; omega))
                   have z0 := z 0
                   have z1 := z 1
                   have z2 := z 2
                   have z3 := z 3
                   have HG := Lib.hid hG
                   clear hG z)
                | fail)
            
            (try simp only [Exit.inBlock, Exit.then])
            have hw := grown_trans (by repeat' (first | (with_reducible refine grown_drewN ?_ _) | go_grown) : Grown w _) HG.out
            have cs := cells_set4 (v0 := .float .f32 (cl .f32 p0)) (v1 := .float .f32 (cl .f32 p1)) (v2 := .float .f32 (cl .f32 p2)) (v3 := .float .f32 (cl .f32 p3)) r0 r1 r2 r3
            refine bodyPost_ret (px_ret Try.results23 _ _ (w.heap.size + 1 + 1) _ _ _ _ cs.1 cs.2.1 cs.2.2.1 cs.2.2.2 rfl) rfl ?_
            exact ⟨rfl, by go_grown⟩
          | true =>
            cases i2 : isN p2 with
            | false =>
              simp only [Bool.not_true, Bool.not_false, Bool.false_or, Bool.true_or, Bool.or_true, Bool.or_false, if_true, Bool.false_eq_true, if_false]
              go_enter Try.func23, Try.ntmps23
              go_wp2_with fail
              refine wp_loop_rounds 3 ?_
              repeat
                rw [rounds_succ]
                go_wp2_with (first
                  | (go_at_call 21; refine (isnumof_any _ _).mono ?_; rintro e w' ⟨rfl, n, rfl⟩)
                  | (go_at_call 68
                     refine (each_fix p0 p1 p2 p3 _).mono ?_
                     rintro e w4 ⟨rfl, hG⟩
                     have r0 : w4.cell? ⟨w.heap.size + 1 + 1, 0, none⟩ = some (.float .f32 0) := grown_cell_some hG (by go_simp)
                     have r1 : w4.cell? ⟨w.heap.size + 1 + 1, 1, none⟩ = some (.float .f32 0) := grown_cell_some hG (by go_simp)
                     have r2 : w4.cell? ⟨w.heap.size + 1 + 1, 2, none⟩ = some (.float .f32 0) := grown_cell_some hG (by go_simp)
                     have r3 : w4.cell? ⟨w.heap.size + 1 + 1, 3, none⟩ = some (.float .f32 0) := grown_cell_some hG (by go_simp)
                     have z : ∀ j, w4.frozen? ⟨w.heap.size + 1 + 1, j, none⟩ = false := fun j => (hG.2.1 _).trans (by simp only [frozen_drewN, frozen?_alloc_cells, World.frozen?_setCell]; exact frozen_new _ _ (by simp; omega))
                     have z0 := z 0
                     have z1 := z 1
                     have z2 := z 2
                     have z3 := z 3
                     have HG := Lib.hid hG
                     clear hG z)
                  | fail)
              
              (try simp only [Exit.inBlock, Exit.then])
              have hw := grown_trans (by repeat' (first | (with_reducible refine grown_drewN ?_ _) | go_grown) : Grown w _) HG.out
              have cs := cells_set4 (v0 := .float .f32 (cl .f32 p0)) (v1 := .float .f32 (cl .f32 p1)) (v2 := .float .f32 (cl .f32 p2)) (v3 := .float .f32 (cl .f32 p3)) r0 r1 r2 r3
              refine bodyPost_ret (px_ret Try.results23 _ _ (w.heap.size + 1 + 1) _ _ _ _ cs.1 cs.2.1 cs.2.2.1 cs.2.2.2 rfl) rfl ?_
              exact ⟨rfl, by go_grown⟩
            | true =>
              simp only [Bool.not_true, Bool.not_false, Bool.false_or, Bool.true_or, Bool.or_true, Bool.or_false, if_true, Bool.false_eq_true, if_false]
              go_enter Try.func23, Try.ntmps23
              go_wp2_with fail
              refine wp_loop_rounds 3 ?_
              repeat
                rw [rounds_succ]
                go_wp2_with (first
                  | (go_at_call 21; refine (isnumof_any _ _).mono ?_; rintro e w' ⟨rfl, n, rfl⟩)
                  | (go_at_call 68
                     refine (each_cmp p0 p1 p2 p3 p1 fr _ _ _ (by go_simp) (by go_simp)).mono ?_
                     rintro e w4 ⟨rfl, hG⟩
                     have r0 : w4.cell? ⟨w.heap.size + 1 + 1, 0, none⟩ = some (.float .f32 0) := grown_cell_some hG (by go_simp)
                     have r1 : w4.cell? ⟨w.heap.size + 1 + 1, 1, none⟩ = some (.float .f32 0) := grown_cell_some hG (by go_simp)
                     have r2 : w4.cell? ⟨w.heap.size + 1 + 1, 2, none⟩ = some (.float .f32 0) := grown_cell_some hG (by go_simp)
                     have r3 : w4.cell? ⟨w.heap.size + 1 + 1, 3, none⟩ = some (.float .f32 0) := grown_cell_some hG (by go_simp)
                     have z : ∀ j, w4.frozen? ⟨w.heap.size + 1 + 1, j, none⟩ = false := fun j => (hG.2.1 _).trans (by simp only [frozen_drewN, frozen?_alloc_cells, World.frozen?_setCell]; exact frozen_new _ _ (by simp; omega))
                     have z0 := z 0
                     have z1 := z 1
                     have z2 := z 2
                     have z3 := z 3
                     have HG := Lib.hid hG
                     clear hG z)
                  | fail)
              
              (try simp only [Exit.inBlock, Exit.then])
              have hw := grown_trans (by repeat' (first | (with_reducible refine grown_drewN ?_ _) | go_grown) : Grown w _) HG.out
              have cs := cells_set4 (v0 := .float .f32 (cmpQ p1 fr p0)) (v1 := .float .f32 (cmpQ p1 fr p1)) (v2 := .float .f32 (cmpQ p1 fr p2)) (v3 := .float .f32 (cl .f32 p3)) r0 r1 r2 r3
              refine bodyPost_ret (px_ret Try.results23 _ _ (w.heap.size + 1 + 1) _ _ _ _ cs.1 cs.2.1 cs.2.2.1 cs.2.2.2 rfl) rfl ?_
              exact ⟨rfl, by go_grown⟩
    | true =>
      simp only [if_true, Bool.false_eq_true, if_false, Bool.false_or]
      cases h3 : FloatKind.f32.format.order p2 0 == some .gt with
      | false =>
        simp only [Bool.not_true, Bool.not_false, Bool.false_or, Bool.true_or, Bool.or_true, Bool.or_false, if_true, Bool.false_eq_true, if_false]
        go_enter Try.func23, Try.ntmps23
        go_wp2_with fail
        refine wp_loop_rounds 3 ?_
        repeat
          rw [rounds_succ]
          go_wp2_with (first
            | (go_at_call 21; refine (isnumof_any _ _).mono ?_; rintro e w' ⟨rfl, n, rfl⟩)
            | (go_at_call 68
               refine (each_fix p0 p1 p2 p3 _).mono ?_
               rintro e w4 ⟨rfl, hG⟩
               have r0 : w4.cell? ⟨w.heap.size + 1 + 1, 0, none⟩ = some (.float .f32 0) := grown_cell_some hG (by go_simp)
               have r1 : w4.cell? ⟨w.heap.size + 1 + 1, 1, none⟩ = some (.float .f32 0) := grown_cell_some hG (by go_simp)
               have r2 : w4.cell? ⟨w.heap.size + 1 + 1, 2, none⟩ = some (.float .f32 0) := grown_cell_some hG (by go_simp)
               have r3 : w4.cell? ⟨w.heap.size + 1 + 1, 3, none⟩ = some (.float .f32 0) := grown_cell_some hG (by go_simp)
               have z : ∀ j, w4.frozen? ⟨w.heap.size + 1 + 1, j, none⟩ = false := fun j => (hG.2.1 _).trans (by simp only [frozen_drewN, frozen?_alloc_cells, World.frozen?_setCell]; exact frozen_new _ _ (by simp; omega))
               have z0 := z 0
               have z1 := z 1
               have z2 := z 2
               have z3 := z 3
               have HG := Lib.hid hG
               clear hG z)
            | fail)
        
        (try simp only [Exit.inBlock, Exit.then])
        have hw := grown_trans (by repeat' (first | (with_reducible refine grown_drewN ?_ _) | go_grown) : Grown w _) HG.out
        have cs := cells_set4 (v0 := .float .f32 (cl .f32 p0)) (v1 := .float .f32 (cl .f32 p1)) (v2 := .float .f32 (cl .f32 p2)) (v3 := .float .f32 (cl .f32 p3)) r0 r1 r2 r3
        refine bodyPost_ret (px_ret Try.results23 _ _ (w.heap.size + 1 + 1) _ _ _ _ cs.1 cs.2.1 cs.2.2.1 cs.2.2.2 rfl) rfl ?_
        exact ⟨rfl, by go_grown⟩
      | true =>
        cases i0 : isN p0 with
        | false =>
          simp only [Bool.not_true, Bool.not_false, Bool.false_or, Bool.true_or, Bool.or_true, Bool.or_false, if_true, Bool.false_eq_true, if_false]
          go_enter Try.func23, Try.ntmps23
          go_wp2_with fail
          refine wp_loop_rounds 3 ?_
          repeat
            rw [rounds_succ]
            go_wp2_with (first
              | (go_at_call 21; refine (isnumof_any _ _).mono ?_; rintro e w' ⟨rfl, n, rfl⟩)
              | (go_at_call 68
                 refine (each_fix p0 p1 p2 p3 _).mono ?_
                 rintro e w4 ⟨rfl, hG⟩
                 have r0 : w4.cell? ⟨w.heap.size + 1 + 1, 0, none⟩ = some (.float .f32 0) := grown_cell_some hG (by go_simp)
                 have r1 : w4.cell? ⟨w.heap.size + 1 + 1, 1, none⟩ = some (.float .f32 0) := grown_cell_some hG (by go_simp)
                 have r2 : w4.cell? ⟨w.heap.size + 1 + 1, 2, none⟩ = some (.float .f32 0) := grown_cell_some hG (by go_simp)
                 have r3 : w4.cell? ⟨w.heap.size + 1 + 1, 3, none⟩ = some (.float .f32 0) := grown_cell_some hG (by go_simp)
                 have z : ∀ j, w4.frozen? ⟨w.heap.size + 1 + 1, j, none⟩ = false := fun j => (hG.2.1 _).trans (by simp only [frozen_drewN, frozen?_alloc_cells, World.frozen?_setCell]; exact frozen_new _ _ (by simp; omega))
                 have z0 := z 0
                 have z1 := z 1
                 have z2 := z 2
                 have z3 := z 3
                 have HG := Lib.hid hG
                 clear hG z)
              | fail)
          
          (try simp only [Exit.inBlock, Exit.then])
          have hw := grown_trans (by repeat' (first | (with_reducible refine grown_drewN ?_ _) | go_grown) : Grown w _) HG.out
          have cs := cells_set4 (v0 := .float .f32 (cl .f32 p0)) (v1 := .float .f32 (cl .f32 p1)) (v2 := .float .f32 (cl .f32 p2)) (v3 := .float .f32 (cl .f32 p3)) r0 r1 r2 r3
          refine bodyPost_ret (px_ret Try.results23 _ _ (w.heap.size + 1 + 1) _ _ _ _ cs.1 cs.2.1 cs.2.2.1 cs.2.2.2 rfl) rfl ?_
          exact ⟨rfl, by go_grown⟩
        | true =>
          cases i1 : isN p1 with
          | false =>
            simp only [Bool.not_true, Bool.not_false, Bool.false_or, Bool.true_or, Bool.or_true, Bool.or_false, if_true, Bool.false_eq_true, if_false]
            go_enter Try.func23, Try.ntmps23
            go_wp2_with fail
            refine wp_loop_rounds 3 ?_
            repeat
              rw [rounds_succ]
              go_wp2_with (first
                | (go_at_call 21; refine (isnumof_any _ _).mono ?_; rintro e w' ⟨rfl, n, rfl⟩)
                | (go_at_call 68
                   refine (each_fix p0 p1 p2 p3 _).mono ?_
                   rintro e w4 ⟨rfl, hG⟩
                   have r0 : w4.cell? ⟨w.heap.size + 1 + 1, 0, none⟩ = some (.float .f32 0) := grown_cell_some hG (by go_simp)
                   have r1 : w4.cell? ⟨w.heap.size + 1 + 1, 1, none⟩ = some (.float .f32 0) := grown_cell_some hG (by go_simp)
                   have r2 : w4.cell? ⟨w.heap.size + 1 + 1, 2, none⟩ = some (.float .f32 0) := grown_cell_some hG (by go_simp)
                   have r3 : w4.cell? ⟨w.heap.size + 1 + 1, 3, none⟩ = some (.float .f32 0) := grown_cell_some hG (by go_simp)
                   have z : ∀ j, w4.frozen? ⟨w.heap.size + 1 + 1, j, none⟩ = false := fun j => (hG.2.1 _).trans (by simp only [frozen_drewN, frozen?_alloc_cells, World.frozen?_setCell]; exact frozen_new _ _ (by simp; omega))
                   have z0 := z 0
                   have z1 := z 1
                   have z2 := z 2
                   have z3 := z 3
                   have HG := Lib.hid hG
                   clear hG z)
                | fail)
            
            (try simp only [Exit.inBlock, Exit.then])
            have hw := grown_trans (by repeat' (first | (with_reducible refine grown_drewN ?_ _) | go_grown) : Grown w _) HG.out
            have cs := cells_set4 (v0 := .float .f32 (cl .f32 p0)) (v1 := .float .f32 (cl .f32 p1)) (v2 := .float .f32 (cl .f32 p2)) (v3 := .float .f32 (cl .f32 p3)) r0 r1 r2 r3
            refine bodyPost_ret (px_ret Try.results23 _ _ (w.heap.size + 1 + 1) _ _ _ _ cs.1 cs.2.1 cs.2.2.1 cs.2.2.2 rfl) rfl ?_
            exact ⟨rfl, by go_grown⟩
          | true =>
            cases i2 : isN p2 with
            | false =>
              simp only [Bool.not_true, Bool.not_false, Bool.false_or, Bool.true_or, Bool.or_true, Bool.or_false, if_true, Bool.false_eq_true, if_false]
              go_enter Try.func23, Try.ntmps23
              go_wp2_with fail
              refine wp_loop_rounds 3 ?_
              repeat
                rw [rounds_succ]
                go_wp2_with (first
                  | (go_at_call 21; refine (isnumof_any _ _).mono ?_; rintro e w' ⟨rfl, n, rfl⟩)
                  | (go_at_call 68
                     refine (each_fix p0 p1 p2 p3 _).mono ?_
                     rintro e w4 ⟨rfl, hG⟩
                     have r0 : w4.cell? ⟨w.heap.size + 1 + 1, 0, none⟩ = some (.float .f32 0) := grown_cell_some hG (by go_simp)
                     have r1 : w4.cell? ⟨w.heap.size + 1 + 1, 1, none⟩ = some (.float .f32 0) := grown_cell_some hG (by go_simp)
                     have r2 : w4.cell? ⟨w.heap.size + 1 + 1, 2, none⟩ = some (.float .f32 0) := grown_cell_some hG (by go_simp)
                     have r3 : w4.cell? ⟨w.heap.size + 1 + 1, 3, none⟩ = some (.float .f32 0) := grown_cell_some hG (by go_simp)
                     have z : ∀ j, w4.frozen? ⟨w.heap.size + 1 + 1, j, none⟩ = false := fun j => (hG.2.1 _).trans (by simp only [frozen_drewN, frozen?_alloc_cells, World.frozen?_setCell]; exact frozen_new _ _ (by simp; omega))
                     have z0 := z 0
                     have z1 := z 1
                     have z2 := z 2
                     have z3 := z 3
                     have HG := Lib.hid hG
                     clear hG z)
                  | fail)
              
              (try simp only [Exit.inBlock, Exit.then])
              have hw := grown_trans (by repeat' (first | (with_reducible refine grown_drewN ?_ _) | go_grown) : Grown w _) HG.out
              have cs := cells_set4 (v0 := .float .f32 (cl .f32 p0)) (v1 := .float .f32 (cl .f32 p1)) (v2 := .float .f32 (cl .f32 p2)) (v3 := .float .f32 (cl .f32 p3)) r0 r1 r2 r3
              refine bodyPost_ret (px_ret Try.results23 _ _ (w.heap.size + 1 + 1) _ _ _ _ cs.1 cs.2.1 cs.2.2.1 cs.2.2.2 rfl) rfl ?_
              exact ⟨rfl, by go_grown⟩
            | true =>
              simp only [Bool.not_true, Bool.not_false, Bool.false_or, Bool.true_or, Bool.or_true, Bool.or_false, if_true, Bool.false_eq_true, if_false]
              go_enter Try.func23, Try.ntmps23
              go_wp2_with fail
              refine wp_loop_rounds 3 ?_
              repeat
                rw [rounds_succ]
                go_wp2_with (first
                  | (go_at_call 21; refine (isnumof_any _ _).mono ?_; rintro e w' ⟨rfl, n, rfl⟩)
                  | (go_at_call 68
                     refine (each_cmp p0 p1 p2 p3 p2 fr _ _ _ (by go_simp) (by go_simp)).mono ?_
                     rintro e w4 ⟨rfl, hG⟩
                     have r0 : w4.cell? ⟨w.heap.size + 1 + 1, 0, none⟩ = some (.float .f32 0) := grown_cell_some hG (by go_simp)
                     have r1 : w4.cell? ⟨w.heap.size + 1 + 1, 1, none⟩ = some (.float .f32 0) := grown_cell_some hG (by go_simp)
                     have r2 : w4.cell? ⟨w.heap.size + 1 + 1, 2, none⟩ = some (.float .f32 0) := grown_cell_some hG (by go_simp)
                     have r3 : w4.cell? ⟨w.heap.size + 1 + 1, 3, none⟩ = some (.float .f32 0) := grown_cell_some hG (by go_simp)
                     have z : ∀ j, w4.frozen? ⟨w.heap.size + 1 + 1, j, none⟩ = false := fun j => (hG.2.1 _).trans (by simp only [frozen_drewN, frozen?_alloc_cells, World.frozen?_setCell]; exact frozen_new _ _ (by simp; omega))
                     have z0 := z 0
                     have z1 := z 1
                     have z2 := z 2
                     have z3 := z 3
                     have HG := Lib.hid hG
                     clear hG z)
                  | fail)
              
              (try simp only [Exit.inBlock, Exit.then])
              have hw := grown_trans (by repeat' (first | (with_reducible refine grown_drewN ?_ _) | go_grown) : Grown w _) HG.out
              have cs := cells_set4 (v0 := .float .f32 (cmpQ p2 fr p0)) (v1 := .float .f32 (cmpQ p2 fr p1)) (v2 := .float .f32 (cmpQ p2 fr p2)) (v3 := .float .f32 (cl .f32 p3)) r0 r1 r2 r3
              refine bodyPost_ret (px_ret Try.results23 _ _ (w.heap.size + 1 + 1) _ _ _ _ cs.1 cs.2.1 cs.2.2.1 cs.2.2.2 rfl) rfl ?_
              exact ⟨rfl, by go_grown⟩
end Go.Proofs.Ytfphhlodfieopaa
