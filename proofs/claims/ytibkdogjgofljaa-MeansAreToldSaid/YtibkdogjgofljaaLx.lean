/- What Ldexp gives at some closed arguments (by running it in the kernel). Conditions: none. -/
import Derived.Test.YtibkdogjgofljaaCn
namespace Go.Proofs.Ytibkdogjgofljaa
open Go.RowKit
theorem ldexp_closed {x : Nat} {k : Int} {r : Nat} (h1 : ∀ cs w, runN Try.prog 216 (lone (Frame.enter Try.prog 23 #[.float .f64 x, .int .i64 k] .normal) cs w) = .next (lone (atN 216 23 #[.float .f64 x, .int .i64 k]) cs w))
    (h2 : ∀ w, ((atN 216 23 #[.float .f64 x, .int .i64 k]).mode, (atN 216 23 #[.float .f64 x, .int .i64 k]).defers, (atN 216 23 #[.float .f64 x, .int .i64 k]).kind, (atN 216 23 #[.float .f64 x, .int .i64 k]).fn, (results Try.f23 (atN 216 23 #[.float .f64 x, .int .i64 k]).tmps).run Try.prog w) = (.returning, [], .normal, 23, .ok (.float .f64 r) w)) (w : World) :
    Calls Try.prog 23 #[.float .f64 x, .int .i64 k] w fun e w' => e = .returned (.float .f64 r) ∧ w = w' := by
  simp only [Prod.mk.injEq] at h2
  refine calls_run 216 _ h1 (fun w => ?_) (h2 default).2.2.2.1 w
  obtain ⟨h1, h2, h3, h4, h5⟩ := h2 w
  exact ⟨h1, h2, h3, Try.f23, by rw [h4]; exact Try.func23, h5⟩
theorem ldexp_m126 (w : World) : Calls Try.prog 23 #[.float .f64 4607182418800017408, .int .i64 (-126)] w fun e w' => e = .returned (.float .f64 4039728865751334912) ∧ w = w' :=
  ldexp_closed (fun _ _ => by kernel_rfl) (fun _ => by kernel_rfl) w
theorem ldexp_d1 (w : World) : Calls Try.prog 23 #[.float .f64 4607182418800017408, .int .i64 (-22)] w fun e w' => e = .returned (.float .f64 4508103226997866496) ∧ w = w' :=
  ldexp_closed (fun _ _ => by kernel_rfl) (fun _ => by kernel_rfl) w
theorem ldexp_d2 (w : World) : Calls Try.prog 23 #[.float .f64 4613937818241073152, .int .i64 (-22)] w fun e w' => e = .returned (.float .f64 4514858626438922240) ∧ w = w' :=
  ldexp_closed (fun _ _ => by kernel_rfl) (fun _ => by kernel_rfl) w
theorem ldexp_d3 (w : World) : Calls Try.prog 23 #[.float .f64 4619567317775286272, .int .i64 (-22)] w fun e w' => e = .returned (.float .f64 4520488125973135360) ∧ w = w' :=
  ldexp_closed (fun _ _ => by kernel_rfl) (fun _ => by kernel_rfl) w
theorem ldexp_d4 (w : World) : Calls Try.prog 23 #[.float .f64 4624633867356078080, .int .i64 (-22)] w fun e w' => e = .returned (.float .f64 4525554675553927168) ∧ w = w' :=
  ldexp_closed (fun _ _ => by kernel_rfl) (fun _ => by kernel_rfl) w
theorem ldexp_d5 (w : World) : Calls Try.prog 23 #[.float .f64 4629418941960159232, .int .i64 (-22)] w fun e w' => e = .returned (.float .f64 4530339750158008320) ∧ w = w' :=
  ldexp_closed (fun _ _ => by kernel_rfl) (fun _ => by kernel_rfl) w
theorem ldexp_d6 (w : World) : Calls Try.prog 23 #[.float .f64 4634063279075885056, .int .i64 (-22)] w fun e w' => e = .returned (.float .f64 4534984087273734144) ∧ w = w' :=
  ldexp_closed (fun _ _ => by kernel_rfl) (fun _ => by kernel_rfl) w
theorem ldexp_d7 (w : World) : Calls Try.prog 23 #[.float .f64 4638637247447433216, .int .i64 (-22)] w fun e w' => e = .returned (.float .f64 4539558055645282304) ∧ w = w' :=
  ldexp_closed (fun _ _ => by kernel_rfl) (fun _ => by kernel_rfl) w
theorem ldexp_d8 (w : World) : Calls Try.prog 23 #[.float .f64 4643176031446892544, .int .i64 (-22)] w fun e w' => e = .returned (.float .f64 4544096839644741632) ∧ w = w' :=
  ldexp_closed (fun _ _ => by kernel_rfl) (fun _ => by kernel_rfl) w
theorem ldexp_d9 (w : World) : Calls Try.prog 23 #[.float .f64 4647697223260307456, .int .i64 (-22)] w fun e w' => e = .returned (.float .f64 4548618031458156544) ∧ w = w' :=
  ldexp_closed (fun _ _ => by kernel_rfl) (fun _ => by kernel_rfl) w
theorem ldexp_d10 (w : World) : Calls Try.prog 23 #[.float .f64 4652209618980700160, .int .i64 (-22)] w fun e w' => e = .returned (.float .f64 4553130427178549248) ∧ w = w' :=
  ldexp_closed (fun _ _ => by kernel_rfl) (fun _ => by kernel_rfl) w
theorem ldexp_d11 (w : World) : Calls Try.prog 23 #[.float .f64 4656717616654581760, .int .i64 (-22)] w fun e w' => e = .returned (.float .f64 4557638424852430848) ∧ w = w' :=
  ldexp_closed (fun _ _ => by kernel_rfl) (fun _ => by kernel_rfl) w
theorem ldexp_d12 (w : World) : Calls Try.prog 23 #[.float .f64 4661223415305207808, .int .i64 (-22)] w fun e w' => e = .returned (.float .f64 4562144223503056896) ∧ w = w' :=
  ldexp_closed (fun _ _ => by kernel_rfl) (fun _ => by kernel_rfl) w
theorem ldexp_d13 (w : World) : Calls Try.prog 23 #[.float .f64 4665728114444206080, .int .i64 (-22)] w fun e w' => e = .returned (.float .f64 4566648922642055168) ∧ w = w' :=
  ldexp_closed (fun _ _ => by kernel_rfl) (fun _ => by kernel_rfl) w
theorem ldexp_d14 (w : World) : Calls Try.prog 23 #[.float .f64 4670232263827390464, .int .i64 (-22)] w fun e w' => e = .returned (.float .f64 4571153072025239552) ∧ w = w' :=
  ldexp_closed (fun _ _ => by kernel_rfl) (fun _ => by kernel_rfl) w
theorem ldexp_d15 (w : World) : Calls Try.prog 23 #[.float .f64 4674736138332667904, .int .i64 (-22)] w fun e w' => e = .returned (.float .f64 4575656946530516992) ∧ w = w' :=
  ldexp_closed (fun _ _ => by kernel_rfl) (fun _ => by kernel_rfl) w
theorem ldexp_d16 (w : World) : Calls Try.prog 23 #[.float .f64 4679239875398991872, .int .i64 (-22)] w fun e w' => e = .returned (.float .f64 4580160683596840960) ∧ w = w' :=
  ldexp_closed (fun _ _ => by kernel_rfl) (fun _ => by kernel_rfl) w
end Go.Proofs.Ytibkdogjgofljaa
