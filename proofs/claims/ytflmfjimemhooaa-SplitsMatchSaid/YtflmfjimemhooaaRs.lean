/- Arguments opened to cells: slices of works, slices of runs. Conditions: none. -/
import Derived.Test.YtflmfjimemhooaaWb
import Derived.Deep.Fields
import Derived.ChangeSame
namespace Go.Proofs.Ytflmfjimemhooaa
set_option linter.unusedVariables false
set_option linter.unusedSimpArgs false
open Go.ChangeShapes Go.WideShapes Go.ChangeAt Go.RowKit Go.Deep


section
variable {H : Type} {enc : TypeId × Value → H} {P : Program} {w : World} {base : Nat} {spare : Nat → Bool} {held : Bool}
/-- Runs: what lies in memory of a slice of them. -/
def RnR (w : World) (A : Option Addr) (n : Nat) (F : Nat → Nat → Int) (G : Nat → Bool) : Prop :=
  0 < n → ∃ b o, A = some ⟨b, o, none⟩ ∧ ∀ i, i < n → w.cell? ⟨b, o + i * 5, none⟩ = some (.int .i64 (F 0 i)) ∧ w.cell? ⟨b, o + i * 5 + 1, none⟩ = some (.int .i64 (F 1 i)) ∧ w.cell? ⟨b, o + i * 5 + 2, none⟩ = some (.int .i64 (F 2 i)) ∧ w.cell? ⟨b, o + i * 5 + 3, none⟩ = some (.int .i64 (F 3 i)) ∧ w.cell? ⟨b, o + i * 5 + 4, none⟩ = some (.bool (G i))
theorem RnR.kept {w w' : World} {A : Option Addr} {n : Nat} {F : Nat → Nat → Int} {G : Nat → Bool} (h : RnR w A n F G) (k : Kept None' w w') : RnR w' A n F G := fun hn => by
  obtain ⟨b, o, e, hc⟩ := h hn
  exact ⟨b, o, e, fun i hi => ⟨k.some (hc i hi).1 id, k.some (hc i hi).2.1 id, k.some (hc i hi).2.2.1 id, k.some (hc i hi).2.2.2.1 id, k.some (hc i hi).2.2.2.2 id⟩⟩

/-- A slice of structs: its cells V, and each element's row of cells with the reading of each field. -/
theorem op_stride {t e : TypeId} {fs : Array Field} {fuel : Nat} {cs : List Value} {x : DataW H × List MemPlace} (ht : P.underlying t = some (.slice e)) (he : P.underlying e = some (.struct fs)) (h : DataW.trod enc P w base spare held fuel t cs = some x) :
    ∃ (A : Option Addr) (n cap : Nat) (V : Nat → Value), cs = [.slice A n cap] ∧ n ≤ cap ∧ cap ≤ maxLen ∧ Rd w A (n * P.cellsOf e) V ∧
      ∀ i, i < n → ∃ row : List Value, row.length = P.cellsOf e ∧ (∀ j, j < P.cellsOf e → row[j]? = some (V (i * P.cellsOf e + j))) ∧ ∀ (k : Nat) (f : Field), fs[k]? = some f → k < fs.size ∧ ∃ (m : Nat) (y : Option (DataW H × List MemPlace)), DataW.trod enc P w base spare held m f.type ((row.drop f.offset).take (P.cellsOf f.type)) = y ∧ y ≠ none := by
  rcases open_slice ht h with ⟨rfl, -⟩ | ⟨a, len, cap, m, n, D, Pl, rfl, -, hl, hm, hmm, -, hx⟩
  · exact ⟨none, 0, 0, fun _ => undef, rfl, Nat.le_refl _, by unfold maxLen; omega, fun h => absurd h (by simp), fun i h => absurd h (by omega)⟩
  · have hlm : len ≤ m := by rw [hmm]; split <;> omega
    generalize hs : P.cellsOf e = s at *
    have rows : ∀ i, ∃ row : List Value, i < len → row.length = s ∧ (∀ j, j < s → w.cell? (a.add (i * s + j)) = row[j]?) ∧ DataW.trod enc P w base spare held n e row = some (D i, Pl i) := fun i => by
      by_cases hi : i < len
      · obtain ⟨row, hc, hr⟩ := hx i (by omega)
        obtain ⟨-, hlen, hcell⟩ := World.cells?_some hc
        exact ⟨row, fun _ => ⟨hlen, fun j hj => by rw [← hcell j hj, Go.Deep.add_add], hr⟩⟩
      · exact ⟨[], fun h => absurd h hi⟩
    have hpos : ∀ q, q < len * s → 0 < s := fun q hq => by
      rcases Nat.eq_zero_or_pos s with h0 | h0
      · rw [h0] at hq; omega
      · exact h0
    refine ⟨some a, len, cap, fun q => ((rows (q / s)).choose[q % s]?).getD undef, rfl, hl, hm, rd_adds fun q hq => ?_, fun i hi => ?_⟩
    · have h1 : q % s < s := Nat.mod_lt _ (hpos q hq)
      have h2 : q / s < len := Nat.div_lt_of_lt_mul (by rwa [Nat.mul_comm])
      obtain ⟨r1, r2, -⟩ := (rows (q / s)).choose_spec h2
      have h3 := r2 (q % s) h1
      rw [show q / s * s + q % s = q by rw [Nat.mul_comm]; exact Nat.div_add_mod ..] at h3
      rw [h3, List.getElem?_eq_getElem (by omega)]
      rfl
    · obtain ⟨r1, r2, r3⟩ := (rows i).choose_spec hi
      refine ⟨(rows i).choose, r1, fun j hj => ?_, fun k f hf => ?_⟩
      · have e1 : (i * s + j) / s = i := by rw [Nat.mul_comm, Nat.mul_add_div (by omega), Nat.div_eq_of_lt hj, Nat.add_zero]
        have e2 : (i * s + j) % s = j := by rw [Nat.mul_comm, Nat.mul_add_mod, Nat.mod_eq_of_lt hj]
        simp only [e1, e2]
        rw [List.getElem?_eq_getElem (by omega)]
        rfl
      · obtain ⟨xs, m2, -, -, -, hxl, hxf⟩ := DataW.trod_struct he r3
        have hk : k < fs.size := (Array.getElem?_eq_some_iff.1 hf).1
        exact ⟨hk, m2, _, hxf k f hf, by rw [List.getElem?_eq_getElem (by omega)]; simp⟩
theorem op_fields {t e : TypeId} {fs : Array Field} {fuel : Nat} {cs : List Value} {x : DataW H × List MemPlace} (ht : P.underlying t = some (.slice e)) (he : P.underlying e = some (.struct fs))
    (hone : oneCellFields P fs = true) (hC : P.cellsOf e = fs.size) (h : DataW.trod enc P w base spare held fuel t cs = some x) :
    ∃ (A : Option Addr) (n cap : Nat) (V : Nat → Value), cs = [.slice A n cap] ∧ n ≤ cap ∧ cap ≤ maxLen ∧ Rd w A (n * fs.size) V ∧
      ∀ i j f, i < n → fs[j]? = some f → ∃ (m : Nat) (y : DataW H × List MemPlace), DataW.trod enc P w base spare held m f.type [V (i * fs.size + j)] = some y := by
  obtain ⟨A, n, cap, V, e1, e2, e3, hr, hv⟩ := op_stride ht he h
  rw [hC] at hr hv
  refine ⟨A, n, cap, V, e1, e2, e3, hr, fun i j f hi hf => ?_⟩
  obtain ⟨row, hl, hrow, hff⟩ := hv i hi
  obtain ⟨hj, m, y, hy, hne⟩ := hff j f hf
  obtain ⟨ho, hk⟩ := hone_of hone j f hf
  rw [ho, hk] at hy
  have h1 := hrow j hj
  have h2 : (row.drop j).take 1 = [V (i * fs.size + j)] := by
    rw [List.getElem?_eq_getElem (by omega)] at h1
    injection h1 with h1
    rw [List.drop_eq_getElem_cons (by omega), h1]
    rfl
  rw [h2] at hy
  cases y with
  | none => exact absurd rfl hne
  | some y => exact ⟨m, y, hy⟩

theorem op_works {t e ti ts : TypeId} {f0 f1 f2 : Field} {fuel : Nat} {cs : List Value} {x : DataW H × List MemPlace} (ht : P.underlying t = some (.slice e)) (he : P.underlying e = some (.struct #[f0, f1, f2])) (h0 : f0.type = ti) (h1 : f1.type = ti) (h2 : f2.type = ts)
    (hone : oneCellFields P #[f0, f1, f2] = true) (hC : P.cellsOf e = 3) (hi : P.underlying ti = some (.int .i64)) (hs : P.underlying ts = some (.slice ti)) (hc1 : P.cellsOf ti = 1) (h : DataW.trod enc P w base spare held fuel t cs = some x) :
    ∃ (A : Option Addr) (n cap : Nat) (C R : Nat → Int) (AA : Nat → Option Addr) (an ac : Nat → Nat) (az : Nat → Nat → Int), cs = [.slice A n cap] ∧ n ≤ cap ∧ cap ≤ maxLen ∧ WkR w A n C R AA an ac az := by
  obtain ⟨A, n, cap, V, e1, e2, e3, hr, hv⟩ := op_fields ht he hone hC h
  have kC : ∀ i, ∃ c, i < n → V (i * 3) = .int .i64 c := fun i => by
    by_cases hin : i < n
    · obtain ⟨m, y, hy⟩ := hv i 0 f0 hin rfl
      rw [h0] at hy
      obtain ⟨c, hb, -, -⟩ := DataW.trod_int hi hy
      injection hb with hb
      exact ⟨c, fun _ => hb⟩
    · exact ⟨0, fun h => absurd h hin⟩
  have kR : ∀ i, ∃ c, i < n → V (i * 3 + 1) = .int .i64 c := fun i => by
    by_cases hin : i < n
    · obtain ⟨m, y, hy⟩ := hv i 1 f1 hin rfl
      rw [h1] at hy
      obtain ⟨c, hb, -, -⟩ := DataW.trod_int hi hy
      injection hb with hb
      exact ⟨c, fun _ => hb⟩
    · exact ⟨0, fun h => absurd h hin⟩
  have kA : ∀ i, ∃ (B : Option Addr) (l c : Nat) (z : Nat → Int), i < n → V (i * 3 + 2) = .slice B l c ∧ l ≤ c ∧ c ≤ maxLen ∧ Rd w B l (fun k => .int .i64 (z k)) := fun i => by
    by_cases hin : i < n
    · obtain ⟨m, y, hy⟩ := hv i 2 f2 hin rfl
      rw [h2] at hy
      obtain ⟨B, l, c, z, hb, hl, hm, hz, -⟩ := op_ints hs hi hc1 hy
      injection hb with hb
      exact ⟨B, l, c, z, fun _ => ⟨hb, hl, hm, hz⟩⟩
    · exact ⟨none, 0, 0, fun _ => 0, fun h => absurd h hin⟩
  refine ⟨A, n, cap, fun i => (kC i).choose, fun i => (kR i).choose, fun i => (kA i).choose, fun i => (kA i).choose_spec.choose, fun i => (kA i).choose_spec.choose_spec.choose, fun i => (kA i).choose_spec.choose_spec.choose_spec.choose, e1, e2, e3, fun hn => ?_, fun i hin => ?_⟩
  · have hr := hr (show 0 < n * 3 by omega)
    obtain ⟨b, o, ea, hc⟩ := hr
    refine ⟨b, o, ea, fun i hin => ⟨?_, ?_, ?_⟩⟩
    · rw [← (kC i).choose_spec hin]; exact hc (i * 3) (show i * 3 < n * 3 by omega)
    · rw [← (kR i).choose_spec hin]; exact hc (i * 3 + 1) (show i * 3 + 1 < n * 3 by omega)
    · rw [← ((kA i).choose_spec.choose_spec.choose_spec.choose_spec hin).1]; exact hc (i * 3 + 2) (show i * 3 + 2 < n * 3 by omega)
  · exact ((kA i).choose_spec.choose_spec.choose_spec.choose_spec hin).2

theorem op_runs {t e ti tb : TypeId} {f0 f1 f2 f3 f4 : Field} {fuel : Nat} {cs : List Value} {x : DataW H × List MemPlace} (ht : P.underlying t = some (.slice e)) (he : P.underlying e = some (.struct #[f0, f1, f2, f3, f4])) (h0 : f0.type = ti ∧ f1.type = ti ∧ f2.type = ti ∧ f3.type = ti ∧ f4.type = tb)
    (hone : oneCellFields P #[f0, f1, f2, f3, f4] = true) (hC : P.cellsOf e = 5) (hi : P.underlying ti = some (.int .i64)) (hb : P.underlying tb = some .bool) (h : DataW.trod enc P w base spare held fuel t cs = some x) :
    ∃ (A : Option Addr) (n cap : Nat) (F : Nat → Nat → Int) (G : Nat → Bool), cs = [.slice A n cap] ∧ n ≤ cap ∧ cap ≤ maxLen ∧ RnR w A n F G := by
  obtain ⟨A, n, cap, V, e1, e2, e3, hr, hv⟩ := op_fields ht he hone hC h
  have kF : ∀ j i, ∃ c, j < 4 → i < n → V (i * 5 + j) = .int .i64 c := fun j i => by
    by_cases hin : j < 4 ∧ i < n
    · obtain ⟨f, hf, hft⟩ : ∃ f, #[f0, f1, f2, f3, f4][j]? = some f ∧ f.type = ti := by
        obtain rfl | rfl | rfl | rfl : j = 0 ∨ j = 1 ∨ j = 2 ∨ j = 3 := by omega
        · exact ⟨f0, rfl, h0.1⟩
        · exact ⟨f1, rfl, h0.2.1⟩
        · exact ⟨f2, rfl, h0.2.2.1⟩
        · exact ⟨f3, rfl, h0.2.2.2.1⟩
      obtain ⟨m, y, hy⟩ := hv i j f hin.2 hf
      rw [hft] at hy
      obtain ⟨c, hb, -, -⟩ := DataW.trod_int hi hy
      injection hb with hb
      exact ⟨c, fun _ _ => hb⟩
    · exact ⟨0, fun h h' => absurd ⟨h, h'⟩ hin⟩
  have kG : ∀ i, ∃ c, i < n → V (i * 5 + 4) = .bool c := fun i => by
    by_cases hin : i < n
    · obtain ⟨m, y, hy⟩ := hv i 4 f4 hin rfl
      rw [h0.2.2.2.2] at hy
      obtain ⟨c, hb, -⟩ := DataW.trod_bool hb hy
      injection hb with hb
      exact ⟨c, fun _ => hb⟩
    · exact ⟨false, fun h => absurd h hin⟩
  refine ⟨A, n, cap, fun j i => (kF j i).choose, fun i => (kG i).choose, e1, e2, e3, fun hn => ?_⟩
  have hr := hr (show 0 < n * 5 by omega)
  obtain ⟨b, o, ea, hc⟩ := hr
  refine ⟨b, o, ea, fun i hin => ⟨?_, ?_, ?_, ?_, ?_⟩⟩
  · rw [← (kF 0 i).choose_spec (by omega) hin]; exact hc (i * 5) (show i * 5 < n * 5 by omega)
  · rw [← (kF 1 i).choose_spec (by omega) hin]; exact hc (i * 5 + 1) (show i * 5 + 1 < n * 5 by omega)
  · rw [← (kF 2 i).choose_spec (by omega) hin]; exact hc (i * 5 + 2) (show i * 5 + 2 < n * 5 by omega)
  · rw [← (kF 3 i).choose_spec (by omega) hin]; exact hc (i * 5 + 3) (show i * 5 + 3 < n * 5 by omega)
  · rw [← (kG i).choose_spec hin]; exact hc (i * 5 + 4) (show i * 5 + 4 < n * 5 by omega)
end
end Go.Proofs.Ytflmfjimemhooaa
