/- What the closed test 'counts' answers: true (by running it in the kernel). Conditions: none. -/
import Derived.Test.YtibkdogjgofljaaRows
import Derived.WalkKit
namespace Go.Proofs.Ytibkdogjgofljaa
open Go.RowKit
/-- The frame of the call after n steps. -/
noncomputable def atN (n : Nat) (f : FuncId) (args : Array Value) : Frame :=
  match runN Try.prog n (lone (Frame.enter Try.prog f args .normal) [] default) with
  | .next m => (m.gs[0]?).elim default (·.frame)
  | _ => default
theorem calls_run {f : FuncId} {args : Array Value} {v : Value} (n : Nat) (F : Frame) (h : ∀ cs w, runN Try.prog n (lone (Frame.enter Try.prog f args .normal) cs w) = .next (lone F cs w))
    (hl : ∀ w, F.leaving Try.prog w (.returned v)) (hf : F.fn = f) (w : World) : Calls Try.prog f args w fun e w' => e = .returned v ∧ w = w' :=
  fun cs => ⟨_, w, F, ⟨rfl, rfl⟩, ⟨n, h cs w⟩, hf, hl w⟩
theorem counts_steps (cs : List Frame) (w : World) : runN Try.prog 1362 (lone (Frame.enter Try.prog 25 #[] .normal) cs w) = .next (lone (atN 1362 25 #[]) cs w) := by kernel_rfl
theorem counts_facts (w : World) : ((atN 1362 25 #[]).mode, (atN 1362 25 #[]).defers, (atN 1362 25 #[]).kind, (atN 1362 25 #[]).fn, (results Try.f25 (atN 1362 25 #[]).tmps).run Try.prog w) = (.returning, [], .normal, 25, .ok (.bool true) w) := by kernel_rfl
theorem counts_any (w : World) : Calls Try.prog 25 #[] w fun e w' => e = .returned (.bool true) ∧ w = w' := by
  have hf : ∀ w, _ := counts_facts
  simp only [Prod.mk.injEq] at hf
  refine calls_run 1362 _ counts_steps (fun w => ?_) (hf default).2.2.2.1 w
  obtain ⟨h1, h2, h3, h4, h5⟩ := hf w
  exact ⟨h1, h2, h3, Try.f25, by rw [h4]; exact Try.func25, h5⟩
end Go.Proofs.Ytibkdogjgofljaa
