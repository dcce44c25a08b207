/- What is packed and unpacked is the same; the contract of slices.Equal on equal integers. Conditions: none. -/
import Derived.Test.YtfphhlodfieopaaUq
namespace Go.Proofs.Ytfphhlodfieopaa
open Go.RowKit
open BigFrame

theorem strG_size (m : Nat) (G : Nat → Int) : (strG m G).size = m := by
  show (strOfNums ((List.range m).map G)).data.size = m
  simp [strOfNums]
theorem strG_byte {m : Nat} {G : Nat → Int} {j : Nat} (hj : j < m) (h0 : 0 ≤ G j) (h1 : G j ≤ 255) : sB (strG m G) j = G j := by
  unfold sB strG strOfNums
  have : (((List.range m).map G).map fun n => UInt8.ofNat n.toNat)[j]? = some (UInt8.ofNat (G j).toNat) := by simp [hj]
  simp only [List.getD_eq_getElem?_getD]
  rw [this]
  simp only [Option.getD_some, UInt8.toNat_ofNat']
  omega
theorem strG_same {s : ByteArray} {m : Nat} {G : Nat → Int} (hs : s.size = m) (h : ∀ j, j < m → G j = sB s j) : strG m G = s := by
  have hl : s.data.toList.length = m := by simpa using hs
  have : ((List.range m).map G).map (fun n => UInt8.ofNat n.toNat) = s.data.toList := by
    apply List.ext_getElem
    · simp [hl]
    · intro i h1 h2
      simp only [List.length_map, List.length_range] at h1
      simp only [List.getElem_map, List.getElem_range]
      rw [h i h1]
      unfold sB
      rw [List.getD_eq_getElem?_getD, List.getElem?_eq_getElem h2]
      simp
  unfold strG strOfNums
  rw [this]

theorem un8 {z : Nat → Int} {n : Nat} (h : okTo z 255 n = true) (j : Nat) (hj : j < n) : sB (strG n (pk8 z)) j = z j := by
  obtain ⟨h1, h2⟩ := inB_iff.1 (okTo_at h hj)
  exact strG_byte hj h1 h2
theorem un16s {z : Nat → Int} {n : Nat} (h : okTo z 65535 n = true) (j : Nat) (hj : j < n) : un16 (strG (2 * n) (pk16 z)) j = z j := by
  obtain ⟨h1, h2⟩ := inB_iff.1 (okTo_at h hj)
  obtain ⟨a, b⟩ := pk16_at z j
  have e0 : sB (strG (2 * n) (pk16 z)) (2 * j) = z j / 256 := by rw [strG_byte (by omega) (by rw [← a]; omega) (by rw [← a]; omega), a]
  have e1 : sB (strG (2 * n) (pk16 z)) (2 * j + 1) = z j % 256 := by rw [strG_byte (by omega) (by rw [← b]; omega) (by rw [← b]; omega), b]
  unfold un16
  simp only [wd, Nat.add_zero]
  rw [e0, e1]
  omega
theorem wd10 {z : Nat → Int} {n : Nat} (h : okTo z 1023 n = true) (g : Nat) (hg : g < (n + 2) / 3) : wd (strG (4 * ((n + 2) / 3)) (pk10 z n)) (4 * g) 4 = pkW z n g 3 * 4 := by
  obtain ⟨-, -, h1, h2⟩ := pkW_in h g
  obtain ⟨a, b, c, d⟩ := pk10_at z n g
  generalize pkW z n g 3 = u at *
  have e0 : sB (strG (4 * ((n + 2) / 3)) (pk10 z n)) (4 * g) = u * 4 / 16777216 := by rw [strG_byte (by omega) (by rw [← a]; omega) (by rw [← a]; omega), a]
  have e1 : sB (strG (4 * ((n + 2) / 3)) (pk10 z n)) (4 * g + 1) = u * 4 / 65536 % 256 := by rw [strG_byte (by omega) (by rw [← b]; omega) (by rw [← b]; omega), b]
  have e2 : sB (strG (4 * ((n + 2) / 3)) (pk10 z n)) (4 * g + 2) = u * 4 / 256 % 256 := by rw [strG_byte (by omega) (by rw [← c]; omega) (by rw [← c]; omega), c]
  have e3 : sB (strG (4 * ((n + 2) / 3)) (pk10 z n)) (4 * g + 3) = u * 4 % 256 := by rw [strG_byte (by omega) (by rw [← d]; omega) (by rw [← d]; omega), d]
  simp only [wd, Nat.add_zero]
  rw [e0, e1, e2, e3]
  omega
theorem fld10 {z : Nat → Int} {n : Nat} (h : okTo z 1023 n = true) (j : Nat) (hj : j < 3 * ((n + 2) / 3)) : fld (strG (4 * ((n + 2) / 3)) (pk10 z n)) j = pkF z n j := by
  have h0 := pkF_in h (3 * (j / 3))
  have h1 := pkF_in h (3 * (j / 3) + 1)
  have h2 := pkF_in h (3 * (j / 3) + 2)
  have hw := wd10 h (j / 3) (by omega)
  unfold fld
  rw [hw]
  simp only [pkW, Nat.add_zero]
  by_cases c0 : j % 3 = 0
  · rw [if_pos c0]
    have e : pkF z n j = pkF z n (3 * (j / 3)) := by rw [show 3 * (j / 3) = j by omega]
    rw [e]
    generalize pkF z n (3 * (j / 3)) = a at *
    generalize pkF z n (3 * (j / 3) + 1) = b at *
    generalize pkF z n (3 * (j / 3) + 2) = c at *
    omega
  · rw [if_neg c0]
    by_cases c1 : j % 3 = 1
    · rw [if_pos c1]
      have e : pkF z n j = pkF z n (3 * (j / 3) + 1) := by rw [show 3 * (j / 3) + 1 = j by omega]
      rw [e]
      generalize pkF z n (3 * (j / 3)) = a at *
      generalize pkF z n (3 * (j / 3) + 1) = b at *
      generalize pkF z n (3 * (j / 3) + 2) = c at *
      omega
    · rw [if_neg c1]
      have e : pkF z n j = pkF z n (3 * (j / 3) + 2) := by rw [show 3 * (j / 3) + 2 = j by omega]
      rw [e]
      generalize pkF z n (3 * (j / 3)) = a at *
      generalize pkF z n (3 * (j / 3) + 1) = b at *
      generalize pkF z n (3 * (j / 3) + 2) = c at *
      omega
theorem fld10_in {z : Nat → Int} {n : Nat} (h : okTo z 1023 n = true) (j : Nat) (hj : j < n) : fld (strG (4 * ((n + 2) / 3)) (pk10 z n)) j = z j := by
  rw [fld10 h j (by omega)]
  unfold pkF; rw [if_pos hj]
theorem ok10_pack {z : Nat → Int} {n : Nat} (h : okTo z 1023 n = true) : ok10 (strG (4 * ((n + 2) / 3)) (pk10 z n)) n = true := by
  have hl : ∀ g, g ≤ (n + 2) / 3 → l10 (strG (4 * ((n + 2) / 3)) (pk10 z n)) g = true := by
    intro g
    induction g with
    | zero => intro _; rfl
    | succ g ih =>
      intro hg
      unfold l10
      rw [ih (by omega), wd10 h g (by omega)]
      simp
  have hz : ∀ j, j ≤ 3 * ((n + 2) / 3) → z10 (strG (4 * ((n + 2) / 3)) (pk10 z n)) n j = true := by
    intro j
    induction j with
    | zero => intro _; rfl
    | succ j ih =>
      intro hj
      unfold z10
      rw [ih (by omega), fld10 h j (by omega)]
      by_cases hjn : j < n
      · simp [hjn]
      · unfold pkF; simp [hjn]
  unfold ok10
  rw [hl _ (Nat.le_refl _), hz _ (Nat.le_refl _)]
  rfl

/-! ### What was unpacked, packed again -/
theorem re8 (s : ByteArray) (n : Nat) (hs : s.size = n) : strG n (pk8 (sB s)) = s ∧ okTo (sB s) 255 n = true := by
  refine ⟨strG_same hs (fun j _ => rfl), ?_⟩
  clear hs
  induction n with
  | zero => rfl
  | succ n ih => simp only [okTo, ih, Bool.true_and]; exact inB_iff.2 (sB_in s n)
theorem re16 (s : ByteArray) (n : Nat) (hs : s.size = 2 * n) : strG (2 * n) (pk16 (un16 s)) = s ∧ okTo (un16 s) 65535 n = true := by
  refine ⟨strG_same hs (fun j hj => ?_), ?_⟩
  · have b0 := sB_in s (2 * (j / 2))
    have b1 := sB_in s (2 * (j / 2) + 1)
    unfold pk16 un16
    simp only [wd, Nat.add_zero]
    by_cases c : j % 2 = 0
    · rw [if_pos c]
      have e : sB s j = sB s (2 * (j / 2)) := by rw [show 2 * (j / 2) = j by omega]
      rw [e]
      generalize sB s (2 * (j / 2)) = x at *
      generalize sB s (2 * (j / 2) + 1) = y at *
      omega
    · rw [if_neg c]
      have e : sB s j = sB s (2 * (j / 2) + 1) := by rw [show 2 * (j / 2) + 1 = j by omega]
      rw [e]
      generalize sB s (2 * (j / 2)) = x at *
      generalize sB s (2 * (j / 2) + 1) = y at *
      omega
  · clear hs
    induction n with
    | zero => rfl
    | succ n ih =>
      simp only [okTo, ih, Bool.true_and]
      obtain ⟨-, h, -⟩ := wd_in s (2 * n)
      exact inB_iff.2 h
theorem l10_at {s : ByteArray} {g k : Nat} (h : l10 s k = true) (hg : g < k) : wd s (4 * g) 4 % 4 = 0 := by
  induction k with
  | zero => omega
  | succ k ih =>
    unfold l10 at h
    rw [Bool.and_eq_true] at h
    by_cases e : g = k
    · subst e; simpa using h.2
    · exact ih h.1 (by omega)
theorem z10_at {s : ByteArray} {n j k : Nat} (h : z10 s n k = true) (hj : j < k) (hn : ¬ j < n) : fld s j = 0 := by
  induction k with
  | zero => omega
  | succ k ih =>
    unfold z10 at h
    rw [Bool.and_eq_true] at h
    by_cases e : j = k
    · subst e; simpa [hn] using h.2
    · exact ih h.1 (by omega)
theorem fld_in (s : ByteArray) (j : Nat) : 0 ≤ fld s j ∧ fld s j ≤ 1023 := by
  unfold fld
  split
  · omega
  · split <;> omega
theorem re10 (s : ByteArray) (n : Nat) (hs : s.size = (n + 2) / 3 * 4) (hk : ok10 s n = true) : strG (4 * ((n + 2) / 3)) (pk10 (fld s) n) = s ∧ okTo (fld s) 1023 n = true := by
  unfold ok10 at hk
  rw [Bool.and_eq_true] at hk
  obtain ⟨hl, hz⟩ := hk
  have hF : ∀ j, j < 3 * ((n + 2) / 3) → pkF (fld s) n j = fld s j := by
    intro j hj
    unfold pkF
    split
    · rfl
    · rename_i h; exact (z10_at hz hj h).symm
  refine ⟨strG_same (by omega) (fun j hj => ?_), ?_⟩
  · have hw : pkW (fld s) n (j / 4) 3 * 4 = wd s (4 * (j / 4)) 4 := by
      obtain ⟨f0, f1, f2⟩ := fld_at s (j / 4)
      have h4 := l10_at (g := j / 4) hl (by omega)
      obtain ⟨-, -, -, w1, w2⟩ := wd_in s (4 * (j / 4))
      simp only [pkW, Nat.add_zero]
      rw [hF _ (by omega), hF _ (by omega), hF _ (by omega), f0, f1, f2]
      generalize wd s (4 * (j / 4)) 4 = u at *
      omega
    have b0 := sB_in s (4 * (j / 4))
    have b1 := sB_in s (4 * (j / 4) + 1)
    have b2 := sB_in s (4 * (j / 4) + 2)
    have b3 := sB_in s (4 * (j / 4) + 3)
    unfold pk10
    rw [hw]
    simp only [wd, Nat.add_zero]
    by_cases c0 : j % 4 = 0
    · rw [if_pos c0]
      have e : sB s j = sB s (4 * (j / 4)) := by rw [show 4 * (j / 4) = j by omega]
      rw [e]
      generalize sB s (4 * (j / 4)) = x0 at *
      generalize sB s (4 * (j / 4) + 1) = x1 at *
      generalize sB s (4 * (j / 4) + 2) = x2 at *
      generalize sB s (4 * (j / 4) + 3) = x3 at *
      omega
    · rw [if_neg c0]
      by_cases c1 : j % 4 = 1
      · rw [if_pos c1]
        have e : sB s j = sB s (4 * (j / 4) + 1) := by rw [show 4 * (j / 4) + 1 = j by omega]
        rw [e]
        generalize sB s (4 * (j / 4)) = x0 at *
        generalize sB s (4 * (j / 4) + 1) = x1 at *
        generalize sB s (4 * (j / 4) + 2) = x2 at *
        generalize sB s (4 * (j / 4) + 3) = x3 at *
        omega
      · rw [if_neg c1]
        by_cases c2 : j % 4 = 2
        · rw [if_pos c2]
          have e : sB s j = sB s (4 * (j / 4) + 2) := by rw [show 4 * (j / 4) + 2 = j by omega]
          rw [e]
          generalize sB s (4 * (j / 4)) = x0 at *
          generalize sB s (4 * (j / 4) + 1) = x1 at *
          generalize sB s (4 * (j / 4) + 2) = x2 at *
          generalize sB s (4 * (j / 4) + 3) = x3 at *
          omega
        · rw [if_neg c2]
          have e : sB s j = sB s (4 * (j / 4) + 3) := by rw [show 4 * (j / 4) + 3 = j by omega]
          rw [e]
          generalize sB s (4 * (j / 4)) = x0 at *
          generalize sB s (4 * (j / 4) + 1) = x1 at *
          generalize sB s (4 * (j / 4) + 2) = x2 at *
          generalize sB s (4 * (j / 4) + 3) = x3 at *
          omega
  · clear hF hl hz hs
    induction n with
    | zero => rfl
    | succ n ih => simp only [okTo, ih, Bool.true_and]; exact inB_iff.2 (fld_in s n)

/-- The row of a call's own, as a slice that reads. -/
theorem OwnI.shape {w : World} {base : Nat} {t : TypeId} {k : IntKind} {v : Value} {m : Nat} {G : Nat → Int} (h : OwnI w base t k v m G) : ∃ A cap, v = .slice A m cap ∧ Rd w A m (fun j => .int k (G j)) := by
  by_cases hm : 0 < m
  · obtain ⟨g, cap, rfl, -, hc⟩ := h.cell hm
    exact ⟨some ⟨g, 0, none⟩, cap, rfl, fun _ => ⟨g, 0, rfl, fun i hi => by rw [Nat.zero_add]; exact hc i hi⟩⟩
  · obtain rfl : m = 0 := by omega
    rcases h.2 with ⟨rfl, -⟩ | ⟨g, cap, cur, rfl, hb, hgg, rest⟩
    · exact ⟨none, 0, rfl, fun h => absurd h (by omega)⟩
    · exact ⟨some ⟨g, 0, none⟩, cap, rfl, fun h => absurd h (by omega)⟩
theorem Rd.congr {w : World} {A : Option Addr} {n : Nat} {V V' : Nat → Value} (h : Rd w A n V) (hV : ∀ j, j < n → V j = V' j) : Rd w A n V' := fun hn => by
  obtain ⟨b, o, e, hc⟩ := h hn
  exact ⟨b, o, e, fun i hi => by rw [hc i hi, hV i hi]⟩

set_option linter.unusedSimpArgs false in
set_option linter.unusedVariables false in
set_option maxHeartbeats 2000000 in
theorem equal_ints (A B : Option Addr) (n c1 c2 : Nat) (z : Nat → Int) (w : World) (hn : n ≤ 281474976710656) (h1 : Rd w A n (fun j => .int .i64 (z j))) (h2 : Rd w B n (fun j => .int .i64 (z j))) :
    Calls Try.prog 31 #[.slice A n c1, .slice B n c2] w fun e w' => e = .returned (.bool true) ∧ Kept None' w w' := by
  have H1 := Lib.hid h1
  have H2 := Lib.hid h2
  clear h1 h2
  go_enter Try.func31, Try.ntmps31
  go_wp2_with fail
  go_loopw [13] (fun i wr => ∃ k : Nat, k ≤ n ∧ i = .int .i64 k ∧ Kept None' w wr) (fun i _ => n - (intOf i).toNat)
  case atStart => exact ⟨0, by omega, rfl, Kept.refl _ _⟩
  case round =>
    obtain ⟨k, hk, rfl, hkp⟩ := hrel
    have HK := Lib.hid hkp
    clear hkp
    by_cases hlt : k < n
    · obtain ⟨b, o, rfl, hb⟩ := H1.out (by omega)
      obtain ⟨b2, o2, rfl, hb2⟩ := H2.out (by omega)
      have A0 := ext_cell (HK.out.some (hb k hlt) id)
      have A1 := ext_cell (HK.out.some (hb2 k hlt) id)
      have i1 : (0 : Int) ≤ (k : Int) := by omega
      have i2 : (k : Int) < (n : Int) := by omega
      clear hb hb2
      go_wp2_with fail
      refine region_ext (by kernel_rfl) (by kernel_rfl) ?_
      repeat (first
        | go_big_quiet_skip
        | (go_big_quiet_want; go_big_quiet_op; go_big_quiet_on))
      refine wpQuiet_nil ?_
      rintro _ ⟨xq, rfl⟩
      have kx := Lib.hid (ext_kept wr xq)
      clear A0 A1
      generalize ext wr xq = w2 at *
      go_wp2_with fail
      go_roundw
      case rel => exact ⟨k + 1, by omega, by go_num, HK.out.trans kx.out⟩
      case measure => simp [intOf]; omega
    · obtain rfl : n = k := by omega
      go_wp2_with fail
      go_ret
      exact ⟨rfl, HK.out⟩
end Go.Proofs.Ytfphhlodfieopaa
