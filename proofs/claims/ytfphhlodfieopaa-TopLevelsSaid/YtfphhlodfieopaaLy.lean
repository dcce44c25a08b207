/- What Ldexp gives at 1 and -22 (by running it in the kernel); landed. Conditions: none. -/
import Derived.Test.YtfphhlodfieopaaRows
import Derived.WalkKit
import Derived.Test.YtfphhlodfieopaaGz
namespace Go.Proofs.Ytfphhlodfieopaa
open Go.RowKit
open Fl Fr
/-- The frame of the call after n steps. -/
noncomputable def atN (n : Nat) (f : FuncId) (args : Array Value) : Frame :=
  match runN Try.prog n (lone (Frame.enter Try.prog f args .normal) [] default) with
  | .next m => (m.gs[0]?).elim default (·.frame)
  | _ => default
theorem calls_run {f : FuncId} {args : Array Value} {v : Value} (n : Nat) (F : Frame) (h : ∀ cs w, runN Try.prog n (lone (Frame.enter Try.prog f args .normal) cs w) = .next (lone F cs w))
    (hl : ∀ w, F.leaving Try.prog w (.returned v)) (hf : F.fn = f) (w : World) : Calls Try.prog f args w fun e w' => e = .returned v ∧ w = w' :=
  fun cs => ⟨_, w, F, ⟨rfl, rfl⟩, ⟨n, h cs w⟩, hf, hl w⟩
theorem ldexp_closed {x : Nat} {k : Int} {r : Nat} (h1 : ∀ cs w, runN Try.prog 216 (lone (Frame.enter Try.prog 58 #[.float .f64 x, .int .i64 k] .normal) cs w) = .next (lone (atN 216 58 #[.float .f64 x, .int .i64 k]) cs w))
    (h2 : ∀ w, ((atN 216 58 #[.float .f64 x, .int .i64 k]).mode, (atN 216 58 #[.float .f64 x, .int .i64 k]).defers, (atN 216 58 #[.float .f64 x, .int .i64 k]).kind, (atN 216 58 #[.float .f64 x, .int .i64 k]).fn, (results Try.f58 (atN 216 58 #[.float .f64 x, .int .i64 k]).tmps).run Try.prog w) = (.returning, [], .normal, 58, .ok (.float .f64 r) w)) (w : World) :
    Calls Try.prog 58 #[.float .f64 x, .int .i64 k] w fun e w' => e = .returned (.float .f64 r) ∧ w = w' := by
  simp only [Prod.mk.injEq] at h2
  refine calls_run 216 _ h1 (fun w => ?_) (h2 default).2.2.2.1 w
  obtain ⟨h1, h2, h3, h4, h5⟩ := h2 w
  exact ⟨h1, h2, h3, Try.f58, by rw [h4]; exact Try.func58, h5⟩
theorem ldexp_d1 (w : World) : Calls Try.prog 58 #[.float .f64 4607182418800017408, .int .i64 (-22)] w fun e w' => e = .returned (.float .f64 4508103226997866496) ∧ w = w' :=
  ldexp_closed (fun _ _ => by kernel_rfl) (fun _ => by kernel_rfl) w
set_option maxHeartbeats 400000 in
theorem landed_one (w : World) : Calls Try.prog 56 #[] w fun e w' => e = .returned (.bool true) ∧ w = w' := by
  have h : cl .f32 1065353216 = 1065353216 := by decide +kernel
  have hb := fun w => bits_one 1065353216 w
  rw [h] at hb
  go_enter Try.func56, Try.ntmps56
  go_wp2_with (go_at_call 72; refine (hb _).mono ?_; rintro e w' ⟨rfl, rfl⟩)
  go_ret
  exact ⟨rfl, rfl⟩
end Go.Proofs.Ytfphhlodfieopaa
