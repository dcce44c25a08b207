/- DoneMatches answers true for every input, and its arguments read as before. Conditions: none. -/
import Derived.Test.YtflmfjimemhooaaDoneMatchesw
import Derived.Test.YtflmfjimemhooaaRo
import Derived.ProofKit
import Derived.OpenShut
namespace Go.Proofs.Ytflmfjimemhooaa.doneMatches
open Go.ChangeShapes Go.WideShapes Go.ChangeAt Go.RowKit
open Go.ChangeMaps (open_string shut_string)
set_option linter.unusedVariables false
theorem own : ownKnob Try.prog.godebug = none := by kernel_rfl
set_option maxRecDepth 100000 in
theorem lifted (os : Os) (started : os.Started) (H : Type) (enc : TypeId × Value → H) :
    ReturnsInHanded {} Try.checked os 4 .any (Rows.doneMatchesSpec.pre6 enc Try.prog Try.f4 Rows.doneMatchesRow.domain false) (Rows.doneMatchesSpec.post enc Try.prog Try.f4 false true false false) := by
  refine returnsInHanded_of_change (C := Try.checked) own started (by kernel_rfl) Try.func4
    (ChangeSpec.witness6 (enc := enc) (C := Try.checked) false ⟨#[], #[.slice none 0 0, .slice none 0 0], []⟩ 8 (by kernel_rfl) (by kernel_rfl) (by kernel_rfl) (by kernel_rfl)) ?_
  intro W base args ds gs before hval0 hW hcnd _
  have hval : ∀ (j : Nat) t v, Try.f4.params[j]? = some t → args[j]? = some v → Value.okWide Try.prog W .any base t v := hval0
  have hW' := hW
  obtain ⟨p, q, hA0, hV, rfl, hfz, hnd⟩ := hW
  have hA : DataW.TrodAll enc Try.prog W 0 (fun _ => true) true Try.f4.params.toList args.toList ds p := hA0
  rw [Try.params4] at hA hval
  obtain ⟨v0, vs0, d0, ds0, p0, q0, hargs, rfl, rfl, h0, r0⟩ := trodAll_cons hA
  obtain ⟨v1, vs1, d1, ds1, p1, q1, rfl, rfl, rfl, h1, r1⟩ := trodAll_cons r0
  obtain ⟨rfl, rfl, rfl⟩ := trodAll_nil r1
  obtain rfl : args = #[v0, v1] := by cases args; simp_all
  obtain ⟨rfl, rfl⟩ := trodVars_none hV
  obtain ⟨u0, h0f⟩ := h0
  obtain ⟨a0A, a0n, a0c, a0C, a0R, a0AA, a0an, a0ac, a0az, e0, h0n, h0c, h0r⟩ := op_works Try.underlying36 Try.underlying44 rfl rfl rfl (by kernel_rfl) (by kernel_rfl) Try.underlying3 Try.underlying38 (by kernel_rfl) h0f
  obtain rfl : v0 = .slice a0A a0n a0c := one_cell Try.underlying36 (hval 0 36 v0 rfl rfl) e0
  obtain ⟨u1, h1f⟩ := h1
  obtain ⟨a1A, a1n, a1c, a1F, a1G, e1, h1n, h1c, h1r⟩ := op_runs Try.underlying37 Try.underlying46 ⟨rfl, rfl, rfl, rfl, rfl⟩ (by kernel_rfl) (by kernel_rfl) Try.underlying3 Try.underlying4 h1f
  obtain rfl : v1 = .slice a1A a1n a1c := one_cell Try.underlying37 (hval 1 37 v1 rfl rfl) e1
  clear hA0 hval0
  refine (walk_doneMatches a0A a0n a0c a0C a0R a0AA a0an a0ac a0az a1A a1n a1c a1F a1G W h0n h0c h0r h1n h1c h1r).mono fun e W' ⟨he, hg⟩ => ?_
  subst he
  have hk : Kept None' W W' := hg
  exact ⟨_, rfl, post_of_same (pv := []) hW' (fun _ _ _ => (trodAll_cons_mk (shut_bool Try.underlying4 _) trodAll_mk0))
    (fun sp hsp => kept_trodAll (by kernel_rfl) hk (of_decide_eq_true (by kernel_rfl)) hA (fun x hx => by simpa using hW'.lt x (List.mem_append_left _ hx)) (fun x hx => hsp x (List.mem_append_left _ hx))) (fun _ _ => rfl) rfl
    (hk.toGrown.frame _) hk.frozen (ok_one (by kernel_rfl) rfl (okWide_bool_mk Try.underlying4 _))⟩

theorem over : Rows.doneMatchesRow.holds Try.pinned (OpenSpec.ofChange Rows.doneMatchesSpec) :=
  OpenClaim.holds_of_wide 4 Try.f4 rfl rfl rfl rfl rfl rfl rfl ⟨rfl, rfl, rfl, rfl, rfl⟩ rfl rfl rfl rfl rfl (by kernel_rfl) Try.func4 (by kernel_rfl)
    (of_decide_eq_true (by kernel_rfl)) (by unfold Func.isWrapper; first | (rw [if_pos (by decide +kernel)]; kernel_rfl) | (rw [if_neg (by decide +kernel)]; exact ⟨rfl, rfl⟩))
    (fun os started H enc _ => lifted os started H enc)

theorem proved : Rows.DoneMatchesSaid := over
#print axioms proved
end Go.Proofs.Ytflmfjimemhooaa.doneMatches
