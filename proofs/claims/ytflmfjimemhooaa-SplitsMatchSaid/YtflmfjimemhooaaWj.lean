/- Contracts of First of four, of slices.Equal over tasks, and of farm.Split. Conditions: none. -/
import Derived.Test.YtflmfjimemhooaaWi
import Derived.Laws.StructEq
namespace Go.Proofs.Ytflmfjimemhooaa
set_option linter.unusedVariables false
set_option linter.unusedSimpArgs false
open Go.RowKit
open Fl
open BigFrame

set_option linter.unusedSimpArgs false in
set_option linter.unusedVariables false in
set_option maxHeartbeats 4000000 in
set_option maxRecDepth 100000 in
theorem first4_any (B cap : Nat) (b0 b1 b2 b3 : Int) (w : World) (h0 : w.cell? ⟨B, 0, none⟩ = some (.int .i64 b0)) (h1 : w.cell? ⟨B, 1, none⟩ = some (.int .i64 b1)) (h2 : w.cell? ⟨B, 2, none⟩ = some (.int .i64 b2)) (h3 : w.cell? ⟨B, 3, none⟩ = some (.int .i64 b3)) :
    Calls Try.prog 16 #[.slice (some ⟨B, 0, none⟩) 4 cap] w fun e w' => e = .returned (.int .i64 (if b0 ≠ 0 then b0 else if b1 ≠ 0 then b1 else if b2 ≠ 0 then b2 else b3)) ∧ w = w' := by
  obtain ⟨E, hE⟩ : ∃ E : Int, (if b0 ≠ 0 then b0 else if b1 ≠ 0 then b1 else if b2 ≠ 0 then b2 else b3) = E := ⟨_, rfl⟩
  rw [hE]
  by_cases i0 : b0 = 0
  · subst i0
    by_cases i1 : b1 = 0
    · subst i1
      by_cases i2 : b2 = 0
      · subst i2
        have hE' : b3 = E := by simpa using hE
        subst hE'
        clear hE
        by_cases i3 : b3 = 0
        · subst i3
          go_enter Try.func16, Try.ntmps16
          go_wp2_with fail
          refine wp_loop_rounds 5 ?_
          rw [rounds_succ]
          go_wp2_with fail
          rw [rounds_succ]
          go_wp2_with fail
          rw [rounds_succ]
          go_wp2_with fail
          rw [rounds_succ]
          go_wp2_with fail
          rw [rounds_succ]
          go_wp2_with fail
          go_ret
          exact ⟨rfl, rfl⟩
        · have g : (b3 != 0) = true := by simp [i3]
          go_enter Try.func16, Try.ntmps16
          go_wp2_with fail
          refine wp_loop_rounds 4 ?_
          rw [rounds_succ]
          go_wp2_with fail
          rw [rounds_succ]
          go_wp2_with fail
          rw [rounds_succ]
          go_wp2_with fail
          rw [rounds_succ]
          go_wp2_with fail
          go_ret
          exact ⟨rfl, rfl⟩
      · have hE' : b2 = E := by simpa [i2] using hE
        subst hE'
        clear hE
        have g : (b2 != 0) = true := by simp [i2]
        go_enter Try.func16, Try.ntmps16
        go_wp2_with fail
        refine wp_loop_rounds 3 ?_
        rw [rounds_succ]
        go_wp2_with fail
        rw [rounds_succ]
        go_wp2_with fail
        rw [rounds_succ]
        go_wp2_with fail
        go_ret
        exact ⟨rfl, rfl⟩
    · have hE' : b1 = E := by simpa [i1] using hE
      subst hE'
      clear hE
      have g : (b1 != 0) = true := by simp [i1]
      go_enter Try.func16, Try.ntmps16
      go_wp2_with fail
      refine wp_loop_rounds 2 ?_
      rw [rounds_succ]
      go_wp2_with fail
      rw [rounds_succ]
      go_wp2_with fail
      go_ret
      exact ⟨rfl, rfl⟩
  · have hE' : b0 = E := by simpa [i0] using hE
    subst hE'
    clear hE
    have g : (b0 != 0) = true := by simp [i0]
    go_enter Try.func16, Try.ntmps16
    go_wp2_with fail
    refine wp_loop_rounds 1 ?_
    rw [rounds_succ]
    go_wp2_with fail
    go_ret
    exact ⟨rfl, rfl⟩

set_option linter.unusedSimpArgs false in
set_option linter.unusedVariables false in
set_option maxHeartbeats 4000000 in
set_option maxRecDepth 100000 in
theorem reg_same (b c d e : Int) (n : Nat) (w : World) : (Op.equalIn (n + 2) 23 (.agg #[.int .i64 b, .int .i64 c, .int .i64 d, .int .i64 e]) (.agg #[.int .i64 b, .int .i64 c, .int .i64 d, .int .i64 e])).run Try.prog w = .ok true w := by
  have hS2 : Try.prog.underlying 23 = some (.struct (Try.prog.fieldsOf 23)) := by kernel_rfl
  have hp2 : Try.prog.stoodInHeld 23 = false := by kernel_rfl
  rw [run_equalIn_agg w (n + 1) 23 _ _ hS2 hp2]
  clear hS2 hp2
  have u3 := Try.underlying3
  have a3 : ∀ w, (isAgg 3).run Try.prog w = .ok false w := fun w => by kernel_rfl
  have z3 : ∀ w, (sizeOf 3).run Try.prog w = .ok 1 w := fun w => by kernel_rfl
  simp only [Program.fieldsOf, Try.underlying23]
  go_simp
set_option linter.unusedSimpArgs false in
set_option linter.unusedVariables false in
set_option maxHeartbeats 4000000 in
set_option maxRecDepth 100000 in
theorem task_neq (a b c d e : Int) (w : World) : (binOp .neq 62 (.agg #[.int .i64 a, .int .i64 b, .int .i64 c, .int .i64 d, .int .i64 e]) (.agg #[.int .i64 a, .int .i64 b, .int .i64 c, .int .i64 d, .int .i64 e])).run Try.prog w = .ok (.bool false) w := by
  have hS : Try.prog.underlying 62 = some (.struct (Try.prog.fieldsOf 62)) := by kernel_rfl
  have hp : Try.prog.stoodInHeld 62 = false := by kernel_rfl
  rw [run_neq_struct, show (10000 : Nat) = 9999 + 1 from rfl, run_equalIn_agg w 9999 62 _ _ hS hp]
  clear hS hp
  have u3 := Try.underlying3
  have a3 : ∀ w, (isAgg 3).run Try.prog w = .ok false w := fun w => by kernel_rfl
  have a23 : ∀ w, (isAgg 23).run Try.prog w = .ok true w := fun w => by kernel_rfl
  have z3 : ∀ w, (sizeOf 3).run Try.prog w = .ok 1 w := fun w => by kernel_rfl
  have z23 : ∀ w, (sizeOf 23).run Try.prog w = .ok 4 w := fun w => by kernel_rfl
  have hr := fun w => reg_same b c d e 9997 w
  simp only [Program.fieldsOf, Try.underlying62]
  go_simp

end Go.Proofs.Ytflmfjimemhooaa
