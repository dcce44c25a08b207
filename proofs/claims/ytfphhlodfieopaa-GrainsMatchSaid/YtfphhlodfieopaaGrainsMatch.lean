/- GrainsMatch answers true for every input, and its arguments read as before. Conditions: none. -/
import Derived.Test.YtfphhlodfieopaaGrainsMatchw
import Derived.Test.YtfphhlodfieopaaRo
import Derived.Test.YtfphhlodfieopaaRp
import Derived.ProofKit
import Derived.OpenShut
namespace Go.Proofs.Ytfphhlodfieopaa.grainsMatch
open Go.ChangeShapes Go.WideShapes Go.ChangeAt Go.RowKit
open Go.ChangeMaps (open_string shut_string)
set_option linter.unusedVariables false
theorem own : ownKnob Try.prog.godebug = none := by kernel_rfl
set_option maxRecDepth 100000 in
theorem lifted (os : Os) (started : os.Started) (H : Type) (enc : TypeId × Value → H) :
    ReturnsInHanded {} Try.checked os 7 .any (Rows.grainsMatchSpec.pre6 enc Try.prog Try.f7 Rows.grainsMatchRow.domain false) (Rows.grainsMatchSpec.post enc Try.prog Try.f7 false true false false) := by
  refine returnsInHanded_of_change (C := Try.checked) own started (by kernel_rfl) Try.func7
    (ChangeSpec.witness6 (enc := enc) (C := Try.checked) false ⟨#[], #[.agg #[.int .u32 0, .int .i64 0, .float .f32 0, .float .f32 0, .bool false], .int .i64 0, .int .i64 0, .int .i64 0, .agg #[.float .f32 0, .float .f32 0, .float .f32 0, .float .f32 0], .agg #[.int .i64 0, .int .i64 0, .int .i64 0, .int .i64 0, .slice none 0 0]], []⟩ 8 (by kernel_rfl) (by kernel_rfl) (by kernel_rfl) (by kernel_rfl)) ?_
  intro W base args ds gs before hval0 hW hcnd _
  have hval : ∀ (j : Nat) t v, Try.f7.params[j]? = some t → args[j]? = some v → Value.okWide Try.prog W .any base t v := hval0
  have hW' := hW
  obtain ⟨p, q, hA0, hV, rfl, hfz, hnd⟩ := hW
  have hA : DataW.TrodAll enc Try.prog W 0 (fun _ => true) true Try.f7.params.toList args.toList ds p := hA0
  rw [Try.params7] at hA hval
  obtain ⟨v0, vs0, d0, ds0, p0, q0, hargs, rfl, rfl, h0, r0⟩ := trodAll_cons hA
  obtain ⟨v1, vs1, d1, ds1, p1, q1, rfl, rfl, rfl, h1, r1⟩ := trodAll_cons r0
  obtain ⟨v2, vs2, d2, ds2, p2, q2, rfl, rfl, rfl, h2, r2⟩ := trodAll_cons r1
  obtain ⟨v3, vs3, d3, ds3, p3, q3, rfl, rfl, rfl, h3, r3⟩ := trodAll_cons r2
  obtain ⟨v4, vs4, d4, ds4, p4, q4, rfl, rfl, rfl, h4, r4⟩ := trodAll_cons r3
  obtain ⟨v5, vs5, d5, ds5, p5, q5, rfl, rfl, rfl, h5, r5⟩ := trodAll_cons r4
  obtain ⟨rfl, rfl, rfl⟩ := trodAll_nil r5
  obtain rfl : args = #[v0, v1, v2, v3, v4, v5] := by cases args; simp_all
  obtain ⟨rfl, rfl⟩ := trodVars_none hV
  obtain ⟨c0_0, c0_1, c0_2, c0_3, c0_4, y0_0, y0_1, y0_2, y0_3, y0_4, m0, rfl, k0_0, k0_1, k0_2, k0_3, k0_4⟩ := op_struct5 Try.underlying70 (by kernel_rfl) ⟨rfl, rfl, rfl, rfl, rfl⟩ ⟨(by kernel_rfl), (by kernel_rfl), (by kernel_rfl), (by kernel_rfl), (by kernel_rfl)⟩ h0
  obtain ⟨a0_0, rfl, w0_0⟩ := op_i1 Try.underlying68 k0_0
  obtain ⟨a0_1, rfl, w0_1⟩ := op_i1 Try.underlying3 k0_1
  obtain ⟨a0_2, rfl⟩ := op_f1 Try.underlying38 k0_2
  obtain ⟨a0_3, rfl⟩ := op_f1 Try.underlying38 k0_3
  obtain ⟨a0_4, rfl⟩ := op_b1 Try.underlying4 k0_4
  obtain ⟨a1, rfl, -, -, w1⟩ := open_int Try.underlying3 (hval 1 3 v1 rfl rfl) h1
  obtain ⟨a2, rfl, -, -, w2⟩ := open_int Try.underlying3 (hval 2 3 v2 rfl rfl) h2
  obtain ⟨a3, rfl, -, -, w3⟩ := open_int Try.underlying3 (hval 3 3 v3 rfl rfl) h3
  obtain ⟨a4_0, a4_1, a4_2, a4_3, rfl, -, -, -, -⟩ := op_px Try.underlying42 Try.underlying38 (by kernel_rfl) (by kernel_rfl) h4
  obtain ⟨a5x, a5y, a5w, a5h, a5A, a5n, a5c, a5z, rfl, w5x, w5y, w5w, w5h, h5n, h5c, h5r, h5w⟩ := op_frame Try.underlying27 (by kernel_rfl) ⟨rfl, rfl⟩ ⟨rfl, rfl⟩ Try.underlying23 (by kernel_rfl) ⟨rfl, rfl, rfl, rfl⟩ ⟨rfl, rfl, rfl, rfl⟩ Try.underlying3 (by kernel_rfl) Try.underlying25 (by kernel_rfl) Try.underlying38 (by kernel_rfl) h5
  clear hA0 hval0
  refine (walk_grainsMatch a0_0 a0_1 a0_2 a0_3 a0_4 a1 a2 a3 a4_0 a4_1 a4_2 a4_3 a5x a5y a5w a5h a5A a5n a5c a5z W w0_0 w0_1 w1 w2 w3 w5x w5y w5w w5h h5n h5c h5r h5w).mono fun e W' ⟨he, hg⟩ => ?_
  subst he
  have hk : Kept None' W W' := hg
  exact ⟨_, rfl, post_of_same (pv := []) hW' (fun _ _ _ => (trodAll_cons_mk (shut_bool Try.underlying4 _) trodAll_mk0))
    (fun sp hsp => kept_trodAll (by kernel_rfl) hk (of_decide_eq_true (by kernel_rfl)) hA (fun x hx => by simpa using hW'.lt x (List.mem_append_left _ hx)) (fun x hx => hsp x (List.mem_append_left _ hx))) (fun _ _ => rfl) rfl
    (hk.toGrown.frame _) hk.frozen (ok_one (by kernel_rfl) rfl (okWide_bool_mk Try.underlying4 _))⟩

theorem over : Rows.grainsMatchRow.holds Try.pinned (OpenSpec.ofChange Rows.grainsMatchSpec) :=
  OpenClaim.holds_of_wide 7 Try.f7 rfl rfl rfl rfl rfl rfl rfl ⟨rfl, rfl, rfl, rfl, rfl⟩ rfl rfl rfl rfl rfl (by kernel_rfl) Try.func7 (by kernel_rfl)
    (of_decide_eq_true (by kernel_rfl)) (by unfold Func.isWrapper; first | (rw [if_pos (by decide +kernel)]; kernel_rfl) | (rw [if_neg (by decide +kernel)]; exact ⟨rfl, rfl⟩))
    (fun os started H enc _ => lifted os started H enc)

theorem proved : Rows.GrainsMatchSaid := over
#print axioms proved
end Go.Proofs.Ytfphhlodfieopaa.grainsMatch
