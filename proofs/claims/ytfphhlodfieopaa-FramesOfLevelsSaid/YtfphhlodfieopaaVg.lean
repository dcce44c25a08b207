/- The contracts of Vignetted and DarkOf. Conditions: none. -/
import Derived.Test.YtfphhlodfieopaaSr
import Derived.Test.YtfphhlodfieopaaGx
import Derived.Test.YtfphhlodfieopaaEy
import Derived.Deep.RegionHeld3
import Derived.Deep.RegionLaw
import Derived.Deep.DeepCutAuto
import Derived.Outline
namespace Go.Proofs.Ytfphhlodfieopaa
open Go.RowKit
open Fl Fr
open BigFrame

def dkD (X : Nat) (px : Int) : Nat := fC .sub .f32 (floatOfInt .f32 px) X
def dk2 (X Y : Nat) (px py : Int) : Nat := fC .add .f32 (fC .mul .f32 (dkD X px) (dkD X px)) (fC .mul .f32 (dkD Y py) (dkD Y py))
def dkM (X Y I O D : Nat) (px py : Int) : Nat := lerpP 1065353216 D (smoothP (fC .quo .f32 (fC .sub .f32 (rtC (dk2 X Y px py)) I) (fC .sub .f32 O I)))

theorem dkD_nan {X : Nat} {px : Int} (hX : isN X = true) (h1 : -1048576 ≤ px) (h2 : px ≤ 1048576) : nan .f32 (dkD X px) = false := by
  obtain ⟨s, m, e, hx⟩ := isN_spec hX
  obtain ⟨M, P, h, -⟩ := ofInt_val .f32 px (by omega)
  obtain ⟨_, _, _, -, -, hn⟩ := sub_num h hx
  exact hn
theorem dk2_pos {X Y : Nat} {px py : Int} (h1 : nan .f32 (dkD X px) = false) (h2 : nan .f32 (dkD Y py) = false) : posR (dk2 X Y px py) := add_pos (sq_pos h1) (sq_pos h2)
theorem limP_cl (t a b : Nat) : limP (cl .f32 t) a b = limP t a b := by unfold limP; rw [order_cl_l, order_cl_l, cl_cl]
theorem smoothP_fV (o : BinOp) (x y : Nat) (w : World) : smoothP (fV o .f32 x y w) = smoothP (fC o .f32 x y) := by
  have h : limP (fV o .f32 x y w) 0 1065353216 = limP (fC o .f32 x y) 0 1065353216 := by rw [← limP_cl, cl_fV']
  unfold smoothP
  rw [h]
theorem smoothP_cl (x : Nat) : smoothP (cl .f32 x) = smoothP x := by unfold smoothP; rw [limP_cl]

theorem Kept.drew1' {A : Nat → Prop} (w : World) : Kept A w w.drew := (Kept.refl _ _).drew 1
def vgS (W1 : World) (B : Nat) (i o d : Value) (w' : World) : Prop := Kept None' W1 w' ∧ w'.cell? ⟨B, 2, none⟩ = some i ∧ w'.cell? ⟨B, 3, none⟩ = some o ∧ w'.cell? ⟨B, 4, none⟩ = some d
theorem vgS_of {W1 : World} {B : Nat} {i o d : Value} {w' : World} (h : vgS W1 B i o d W1) (k : Kept None' W1 w') : vgS W1 B i o d w' := ⟨k, k.some h.2.1 id, k.some h.2.2.1 id, k.some h.2.2.2 id⟩
theorem sub_nan {b I : Nat} (h : posR b) (hI : isN I = true) : nan .f32 (fC .sub .f32 (rtC b) I) = false := by
  obtain ⟨s, m, e, hi⟩ := isN_spec hI
  obtain ⟨R, -, -, -, -, -, -, h7⟩ := root_det h
  rcases h7 with ⟨m, e, h⟩ | h
  · obtain ⟨_, _, _, -, -, hn⟩ := sub_num h hi
    exact hn
  · exact nan_of_inf (sub_inf h hi)
theorem sub_nan2 {O I : Nat} (hO : isN O = true) (hI : isN I = true) : nan .f32 (fC .sub .f32 O I) = false := by
  obtain ⟨s, m, e, hi⟩ := isN_spec hI
  obtain ⟨s2, m2, e2, ho⟩ := isN_spec hO
  obtain ⟨_, _, _, -, -, hn⟩ := sub_num ho hi
  exact hn

theorem three_pxK (p0 p1 p2 p3 : Nat) (g : FuncId) (caps : Array Value) (F : Int → Nat → Nat) (w : World)
    (hg : ∀ args w, (callFunc g args).run Try.prog w = .ok (.enter g args) w)
    (hf : ∀ (c : Int) (v : Nat) (wr : World), 0 ≤ c → c < 3 → Kept None' w wr → Calls Try.prog g (#[.int .i64 c, .float .f32 v] ++ caps) wr fun e w'' => ∃ r, e = .returned (.float .f32 r) ∧ cl .f32 r = F c v ∧ Kept None' wr w'') :
    Calls Try.prog 66 #[.agg #[.float .f32 p0, .float .f32 p1, .float .f32 p2, .float .f32 p3], .func (.func g) #[] caps] w fun e w' =>
      e = .returned (.agg #[.float .f32 (F 0 p0), .float .f32 (F 1 p1), .float .f32 (F 2 p2), .float .f32 (cl .f32 p3)]) ∧ Kept None' w w' := by
  have h := three_gen None' (fun _ _ => True) (fun c => if c = 0 then p0 else if c = 1 then p1 else p2) p3 g caps (fun c => F c (if c = 0 then p0 else if c = 1 then p1 else p2)) w (fun _ h => h.elim) (fun _ _ _ _ _ => trivial) trivial hg
    (fun c wr h0 h1 hk _ => (hf c _ wr h0 h1 hk).mono fun e w'' ⟨r, a, b, d⟩ => ⟨r, a, b, d, trivial⟩)
  exact h.mono fun e w' ⟨a, b, _⟩ => ⟨a, b⟩

theorem vig1_any (c : Int) (v m P : Nat) (w : World) (hm : w.cell? ⟨P, 0, none⟩ = some (.float .f32 m)) :
    Calls Try.prog 118 #[.int .i64 c, .float .f32 v, .pointer (some ⟨P, 0, none⟩)] w fun e w' =>
      ∃ r, e = .returned (.float .f32 r) ∧ cl .f32 r = fC .mul .f32 v m ∧ Kept None' w w' := by
  go_enter Try.func118, Try.ntmps118
  go_wp2_with fail
  go_ret
  exact ⟨_, rfl, cl_fV' _ _ _ _ _, (Kept.refl _ _).drew _⟩

theorem three_vig (p0 p1 p2 p3 m P : Nat) (w : World) (hm : w.cell? ⟨P, 0, none⟩ = some (.float .f32 m)) :
    Calls Try.prog 66 #[.agg #[.float .f32 p0, .float .f32 p1, .float .f32 p2, .float .f32 p3], .func (.func 118) #[] #[.pointer (some ⟨P, 0, none⟩)]] w fun e w' =>
      e = .returned (.agg #[.float .f32 (fC .mul .f32 p0 m), .float .f32 (fC .mul .f32 p1 m), .float .f32 (fC .mul .f32 p2 m), .float .f32 (cl .f32 p3)]) ∧ Kept None' w w' :=
  three_pxK p0 p1 p2 p3 118 #[.pointer (some ⟨P, 0, none⟩)] (fun _ v => fC .mul .f32 v m) w Try.call118
    (fun c v wr _ _ hk => vig1_any c v m P wr (hk.some hm id))

set_option linter.unusedSimpArgs false in
set_option linter.unusedVariables false in
set_option maxHeartbeats 4000000 in
set_option maxRecDepth 100000 in
theorem vignetted_any (X Y I O D : Nat) (px py : Int) (p0 p1 p2 p3 : Nat) (w : World) (hX : isN X = true) (hY : isN Y = true) (hI : isN I = true) (hO : isN O = true) (x1 : -1048576 ≤ px) (x2 : px ≤ 1048576) (y1 : -1048576 ≤ py) (y2 : py ≤ 1048576) :
    Calls Try.prog 94 #[.agg #[.float .f32 p0, .float .f32 p1, .float .f32 p2, .float .f32 p3], .agg #[.float .f32 X, .float .f32 Y, .float .f32 I, .float .f32 O, .float .f32 D], .int .i64 px, .int .i64 py] w fun e w' =>
      e = .returned (.agg #[.float .f32 (fC .mul .f32 p0 (dkM X Y I O D px py)), .float .f32 (fC .mul .f32 p1 (dkM X Y I O D px py)), .float .f32 (fC .mul .f32 p2 (dkM X Y I O D px py)), .float .f32 (cl .f32 p3)]) ∧ Kept None' w w' := by
  have nx := dkD_nan hX x1 x2
  have ny := dkD_nan hY y1 y2
  have hp := dk2_pos nx ny
  have a1 : ∀ w, fV .sub .f32 (floatOfInt .f32 px) X w = dkD X px := (det nx).1
  have a2 : fN .sub .f32 (floatOfInt .f32 px) X = 0 := (det nx).2
  have a3 : ∀ w, fV .sub .f32 (floatOfInt .f32 py) Y w = dkD Y py := (det ny).1
  have a4 : fN .sub .f32 (floatOfInt .f32 py) Y = 0 := (det ny).2
  obtain ⟨a5, a6⟩ := det (posR_nan (sq_pos nx))
  obtain ⟨a7, a8⟩ := det (posR_nan (sq_pos ny))
  have a9 : ∀ w, fV .add .f32 (fC .mul .f32 (dkD X px) (dkD X px)) (fC .mul .f32 (dkD Y py) (dkD Y py)) w = dk2 X Y px py := (det (posR_nan hp)).1
  have a10 : fN .add .f32 (fC .mul .f32 (dkD X px) (dkD X px)) (fC .mul .f32 (dkD Y py) (dkD Y py)) = 0 := (det (posR_nan hp)).2
  obtain ⟨b1, b2⟩ := det (sub_nan hp hI)
  obtain ⟨b3, b4⟩ := det (sub_nan2 hO hI)
  have HP := Lib.hid hp
  clear hp nx ny
  go_enter Try.func94, Try.ntmps94
  go_wp2_with fail
  refine of_world (fun W0 hW => ?_)
  have p0' : W0.cell? ⟨w.heap.size, 0, none⟩ = some (.float .f32 p0) := by rw [hW]; go_simp
  have p1' : W0.cell? ⟨w.heap.size, 1, none⟩ = some (.float .f32 p1) := by rw [hW]; go_simp
  have p2' : W0.cell? ⟨w.heap.size, 2, none⟩ = some (.float .f32 p2) := by rw [hW]; go_simp
  have p3' : W0.cell? ⟨w.heap.size, 3, none⟩ = some (.float .f32 p3) := by rw [hW]; go_simp
  have v0 : W0.cell? ⟨w.heap.size + 1, 0, none⟩ = some (.float .f32 X) := by rw [hW]; go_simp
  have v1 : W0.cell? ⟨w.heap.size + 1, 1, none⟩ = some (.float .f32 Y) := by rw [hW]; go_simp
  have v2 : W0.cell? ⟨w.heap.size + 1, 2, none⟩ = some (.float .f32 I) := by rw [hW]; go_simp
  have v3 : W0.cell? ⟨w.heap.size + 1, 3, none⟩ = some (.float .f32 O) := by rw [hW]; go_simp
  have v4 : W0.cell? ⟨w.heap.size + 1, 4, none⟩ = some (.float .f32 D) := by rw [hW]; go_simp
  have s0 : W0.cell? ⟨w.heap.size + 1 + 1, 0, none⟩ = some (.float .f32 0) := by rw [hW]; go_simp
  have s1 : W0.cell? ⟨w.heap.size + 1 + 1, 1, none⟩ = some (.float .f32 0) := by rw [hW]; go_simp
  have s2 : W0.cell? ⟨w.heap.size + 1 + 1, 2, none⟩ = some (.float .f32 0) := by rw [hW]; go_simp
  have s3 : W0.cell? ⟨w.heap.size + 1 + 1, 3, none⟩ = some (.float .f32 0) := by rw [hW]; go_simp
  have z1 : ∀ a : Addr, w.heap.size ≤ a.block → W0.frozen? a = false := fun a ha => by rw [hW]; exact (frozen?_alloc_cells _ _ _ _).trans ((frozen?_alloc_cells _ _ _ _).trans ((frozen?_alloc_cells _ _ _ _).trans (frozen_new _ _ ha)))
  have K0 : Kept None' w W0 := by rw [hW]; exact (((Kept.refl None' w).alloc _ _).alloc _ _).alloc _ _
  have hsz : W0.heap.size = w.heap.size + 1 + 1 + 1 := by rw [hW]; simp
  have E0 := ext_cell v0
  have E1 := ext_cell v1
  have K0 := Lib.hid K0
  have Z0 := Lib.hid z1
  have HSZ := Lib.hid hsz
  clear hW z1 hsz
  refine region_ext (by kernel_rfl) (by kernel_rfl) ?_
  repeat (first
    | go_big_quiet_skip
    | (go_big_quiet_want; go_big_quiet_op; first | go_big_quiet_on | fail))
  refine wpQuiet_nil ?_
  rintro _ ⟨xq, rfl⟩
  have K1 := Lib.hid (ext_kept W0 xq)
  clear E0 E1
  generalize ext W0 xq = W1 at *
  go_wp2_with (first
    | (go_at_call 115; refine (root_any _ _ HP.out).mono ?_; rintro e w' ⟨rfl, rfl⟩)
    | fail)
  have u2 := K1.out.some v2 id
  have u3 := K1.out.some v3 id
  have u4 := K1.out.some v4 id
  have l1 := cell_lt u2
  have hcn : ∀ n v, ((W1.drewN n).alloc (.cells #[v] 38)).cell? ⟨W1.heap.size, 0, none⟩ = some v := fun n v => cell_alloc_one (W1.drewN n) _ _ 0
  have hfn : ∀ n v, ((W1.drewN n).alloc (.cells #[v] 38)).frozen? ⟨W1.heap.size, 0, none⟩ = false := fun n v => (frozen?_alloc_cells _ _ _ _).trans (frozen_new _ _ (Nat.le_refl _))
  go_cut [12] (fun s12 wx => ∃ P : Nat, s12 = .pointer (some ⟨P, 0, none⟩) ∧ wx.cell? ⟨P, 0, none⟩ = some (.float .f32 (dkM X Y I O D px py)) ∧ Kept None' W1 wx)
  case first =>
    cases hq : nan .f32 (fC .quo .f32 (fC .sub .f32 (rtC (dk2 X Y px py)) I) (fC .sub .f32 O I)) with
    | false =>
      obtain ⟨b5, b6⟩ := det hq
      have hM : vgS W1 (w.heap.size + 1) (.float .f32 I) (.float .f32 O) (.float .f32 D) W1 := ⟨Kept.refl _ _, u2, u3, u4⟩
      have HM := Lib.hid hM
      clear hM
      go_region_held3 (fun w' => Kept None' W1 w' ∧ w'.cell? ⟨w.heap.size + 1, 2, none⟩ = some (.float .f32 I) ∧ w'.cell? ⟨w.heap.size + 1, 3, none⟩ = some (.float .f32 O) ∧ w'.cell? ⟨w.heap.size + 1, 4, none⟩ = some (.float .f32 D))
        ((refine vgS_of HM.out ?_; repeat (first | exact Kept.refl _ _ | with_reducible refine Kept.drew ?_ _ | with_reducible refine Kept.alloc ?_ _ _ | with_reducible refine Kept.setCell ?_ (Or.inl (Nat.le_refl _)) _ | with_reducible refine Kept.trans ?_ (Kept.drew1' _))))
        (first
          | (go_simp; go_at_call 117; refine (smooth_any _ _).mono ?_; rintro e w' ⟨rfl, n, rfl⟩)
          | (go_simp; go_at_call 116; refine (lerp_any _ _ _ _).mono ?_; rintro e w' ⟨rfl, n, rfl⟩))
      all_goals
        go_wp2_with fail
        go_meet
        refine ⟨_, rfl, cell_set_eq (by first | exact hcn _ _ | exact cell_alloc_one W1 _ _ 0), ?_⟩
        repeat (first | exact Kept.refl _ _ | with_reducible refine Kept.drew ?_ _ | with_reducible refine Kept.alloc ?_ _ _ | with_reducible refine Kept.setCell ?_ (Or.inl (Nat.le_refl _)) _ | with_reducible refine Kept.trans ?_ (Kept.drew1' _))
    | true =>
      have hM : vgS W1 (w.heap.size + 1) (.float .f32 I) (.float .f32 O) (.float .f32 D) W1 := ⟨Kept.refl _ _, u2, u3, u4⟩
      have HM := Lib.hid hM
      have hs : ∀ w, smoothP (fV .quo .f32 (fC .sub .f32 (rtC (dk2 X Y px py)) I) (fC .sub .f32 O I) w) = smoothP (fC .quo .f32 (fC .sub .f32 (rtC (dk2 X Y px py)) I) (fC .sub .f32 O I)) := smoothP_fV .quo _ _
      clear hM hq
      -- NAN
      refine wp_region_noPanic ?_
      refine wp_region_held_drew (S := vgS W1 (w.heap.size + 1) (.float .f32 I) (.float .f32 O) (.float .f32 D)) (by kernel_rfl) (vgS_of HM.out (Kept.drew1' _)) (fun hHeld => ?_)
      refine wpAnyH_take (i := 0) (v := ?vv0) rfl (by kernel_rfl) (by kernel_rfl) (by kernel_rfl) (fun _ _ _ h => h) (Or.inl ⟨by rfl, ?hy0⟩) (by assumption) ?rest0
      case hy0 =>
        intro wS hSw
        obtain ⟨_, c2, c3, c4⟩ := hSw
        try go_simp
        first | done | with_reducible rfl
      try simp only [Act.put, List.setIfInBounds_toArray, List.set_cons_zero, List.set_cons_succ]
      refine wpAnyH_take (i := 1) (v := ?vv1) rfl (by kernel_rfl) (by kernel_rfl) (by kernel_rfl) (fun _ _ _ h => h) (Or.inl ⟨by rfl, ?hy1⟩) (by assumption) ?rest1
      case hy1 =>
        intro wS hSw
        obtain ⟨_, c2, c3, c4⟩ := hSw
        try go_simp
        first | done | with_reducible rfl
      try simp only [Act.put, List.setIfInBounds_toArray, List.set_cons_zero, List.set_cons_succ]
      refine wpAnyH_take (i := 2) (v := ?vv2) rfl (by kernel_rfl) (by kernel_rfl) (by kernel_rfl) (fun _ _ _ h => h) (Or.inl ⟨by rfl, ?hy2⟩) (by assumption) ?rest2
      case hy2 =>
        intro wS hSw
        obtain ⟨_, c2, c3, c4⟩ := hSw
        try go_simp
        first | done | with_reducible rfl
      try simp only [Act.put, List.setIfInBounds_toArray, List.set_cons_zero, List.set_cons_succ]
      refine wpAnyH_take (i := 3) (v := ?vv3) rfl (by kernel_rfl) (by kernel_rfl) (by kernel_rfl) (fun _ _ _ h => h) (Or.inl ⟨by rfl, ?hy3⟩) (by assumption) ?rest3
      case hy3 =>
        intro wS hSw
        obtain ⟨_, c2, c3, c4⟩ := hSw
        try go_simp
        first | done | with_reducible rfl
      try simp only [Act.put, List.setIfInBounds_toArray, List.set_cons_zero, List.set_cons_succ]
      refine wpAnyH_take (i := 4) (v := ?vv4) rfl (by kernel_rfl) (by kernel_rfl) (by kernel_rfl) (fun _ _ _ h => h) (Or.inl ⟨by rfl, ?hy4⟩) (by assumption) ?rest4
      case hy4 =>
        intro wS hSw
        obtain ⟨_, c2, c3, c4⟩ := hSw
        try go_simp
        first | done | with_reducible rfl
      try simp only [Act.put, List.setIfInBounds_toArray, List.set_cons_zero, List.set_cons_succ]
      refine wpAnyH_take (i := 5) (v := ?vv5) rfl (by kernel_rfl) (by kernel_rfl) (by kernel_rfl) (fun _ _ _ h => h) (Or.inl ⟨by rfl, ?hy5⟩) (by assumption) ?rest5
      case hy5 =>
        intro wS hSw
        obtain ⟨_, c2, c3, c4⟩ := hSw
        try go_simp
        first | done | with_reducible rfl
      try simp only [Act.put, List.setIfInBounds_toArray, List.set_cons_zero, List.set_cons_succ]
      refine wpAnyH_take (i := 6) (v := ?vv6) rfl (by kernel_rfl) (by kernel_rfl) (by kernel_rfl) (fun _ _ _ h => h) (Or.inl ⟨by rfl, ?hy6⟩) (by assumption) ?rest6
      case hy6 =>
        intro wS hSw
        obtain ⟨_, c2, c3, c4⟩ := hSw
        try go_simp
        first | done | with_reducible rfl
      try simp only [Act.put, List.setIfInBounds_toArray, List.set_cons_zero, List.set_cons_succ]
      refine wpAnyH_take (i := 7) (v := ?vv7) rfl (by kernel_rfl) (by kernel_rfl) (by kernel_rfl) (fun _ _ _ h => h) (Or.inl ⟨by rfl, ?hy7⟩) (by assumption) ?rest7
      case hy7 =>
        intro wS hSw
        obtain ⟨_, c2, c3, c4⟩ := hSw
        try go_simp
        first | done | with_reducible rfl
      try simp only [Act.put, List.setIfInBounds_toArray, List.set_cons_zero, List.set_cons_succ]
      refine wpAnyH_take (i := 8) (v := ?vv8) rfl (by kernel_rfl) (by kernel_rfl) (by kernel_rfl) (fun _ _ _ h => h) (Or.inl ⟨by rfl, ?hy8⟩) (by assumption) ?rest8
      case hy8 =>
        intro wS hSw
        obtain ⟨_, c2, c3, c4⟩ := hSw
        try go_simp
        first | done | with_reducible rfl
      try simp only [Act.put, List.setIfInBounds_toArray, List.set_cons_zero, List.set_cons_succ]
      refine wpAnyH_take (i := 9) (v := ?vv9) rfl (by kernel_rfl) (by kernel_rfl) (by kernel_rfl) (fun _ _ _ h => h) (Or.inl ⟨by rfl, ?hy9⟩) (by assumption) ?rest9
      case hy9 =>
        intro wS hSw
        obtain ⟨_, c2, c3, c4⟩ := hSw
        try go_simp
        first | done | with_reducible rfl
      try simp only [Act.put, List.setIfInBounds_toArray, List.set_cons_zero, List.set_cons_succ]
      refine wpAnyH_take (i := 10) (v := ?vv10) rfl (by kernel_rfl) (by kernel_rfl) (by kernel_rfl) (fun _ _ _ h => h) (Or.inl ⟨by rfl, ?hy10⟩) (by assumption) ?rest10
      case hy10 =>
        intro wS hSw
        obtain ⟨_, c2, c3, c4⟩ := hSw
        try go_simp
        first | done | with_reducible rfl
      try simp only [Act.put, List.setIfInBounds_toArray, List.set_cons_zero, List.set_cons_succ]
      refine wpAnyH_ready (rs := [11, 14]) (by kernel_rfl) (by simp) ?_
      refine AllReadyH.cons rfl (fun K hK => ?_) ?_
      · try go_simp
        refine hK.out _ _ ?_ (fun hHeld => ?_)
        · refine vgS_of HM.out ?_; repeat (first | exact Kept.refl _ _ | with_reducible refine Kept.drew ?_ _ | with_reducible refine Kept.alloc ?_ _ _ | with_reducible refine Kept.setCell ?_ (Or.inl (Nat.le_refl _)) _ | with_reducible refine Kept.trans ?_ (Kept.drew1' _))
        clear hK K
        try simp only [Act.put, List.setIfInBounds_toArray, List.set_cons_zero, List.set_cons_succ]
        refine wpAnyH_ready (rs := [12, 14]) (by kernel_rfl) (by simp) ?_
        refine AllReadyH.cons rfl (fun K hK => ?_) ?_
        · try go_simp
          refine (smooth_any _ _).mono ?_; rintro e w' ⟨rfl, n, rfl⟩
          refine hK.out _ _ ?_ (fun hHeld => ?_)
          · refine vgS_of HM.out ?_; repeat (first | exact Kept.refl _ _ | with_reducible refine Kept.drew ?_ _ | with_reducible refine Kept.alloc ?_ _ _ | with_reducible refine Kept.setCell ?_ (Or.inl (Nat.le_refl _)) _ | with_reducible refine Kept.trans ?_ (Kept.drew1' _))
          clear hK K
          try simp only [Act.put, List.setIfInBounds_toArray, List.set_cons_zero, List.set_cons_succ]
          refine wpAnyH_ready (rs := [13, 14]) (by kernel_rfl) (by simp) ?_
          refine AllReadyH.cons rfl (fun K hK => ?_) ?_
          · try go_simp
            refine (lerp_any _ _ _ _).mono ?_; rintro e w' ⟨rfl, n, rfl⟩
            refine hK.out _ _ ?_ (fun hHeld => ?_)
            · refine vgS_of HM.out ?_; repeat (first | exact Kept.refl _ _ | with_reducible refine Kept.drew ?_ _ | with_reducible refine Kept.alloc ?_ _ _ | with_reducible refine Kept.setCell ?_ (Or.inl (Nat.le_refl _)) _ | with_reducible refine Kept.trans ?_ (Kept.drew1' _))
            clear hK K
            try simp only [Act.put, List.setIfInBounds_toArray, List.set_cons_zero, List.set_cons_succ]
            refine wpAnyH_ready (rs := [14]) (by kernel_rfl) (by simp) ?_
            refine AllReadyH.cons rfl (fun K hK => ?_) ?_
            · try go_simp
              refine hK.out _ _ ?_ (fun hHeld => ?_)
              · refine vgS_of HM.out ?_; repeat (first | exact Kept.refl _ _ | with_reducible refine Kept.drew ?_ _ | with_reducible refine Kept.alloc ?_ _ _ | with_reducible refine Kept.setCell ?_ (Or.inl (Nat.le_refl _)) _ | with_reducible refine Kept.trans ?_ (Kept.drew1' _))
              clear hK K
              try simp only [Act.put, List.setIfInBounds_toArray, List.set_cons_zero, List.set_cons_succ]
              refine wpAnyH_ready (rs := [15]) (by kernel_rfl) (by simp) ?_
              refine AllReadyH.cons rfl (fun K hK => ?_) ?_
              · try go_simp
                refine hK.out _ _ ?_ (fun hHeld => ?_)
                · refine vgS_of HM.out ?_; repeat (first | exact Kept.refl _ _ | with_reducible refine Kept.drew ?_ _ | with_reducible refine Kept.alloc ?_ _ _ | with_reducible refine Kept.setCell ?_ (Or.inl (Nat.le_refl _)) _ | with_reducible refine Kept.trans ?_ (Kept.drew1' _))
                clear hK K
                try simp only [Act.put, List.setIfInBounds_toArray, List.set_cons_zero, List.set_cons_succ]
                refine (wpAnyH_done (by kernel_rfl) ?_) _
                refine NoPanic.normal ?_
                go_wp2_with fail
                go_meet
                try rw [hs]
                refine ⟨_, rfl, cell_set_eq (by first | exact hcn _ _ | exact cell_alloc_one W1 _ _ 0), ?_⟩
                repeat (first | exact Kept.refl _ _ | with_reducible refine Kept.drew ?_ _ | with_reducible refine Kept.alloc ?_ _ _ | with_reducible refine Kept.setCell ?_ (Or.inl (Nat.le_refl _)) _ | with_reducible refine Kept.trans ?_ (Kept.drew1' _))
              exact AllReadyH.nil
            exact AllReadyH.nil
          refine AllReadyH.cons rfl (fun K hK => ?_) ?_
          · try go_simp
            refine hK.out _ _ ?_ (fun hHeld => ?_)
            · refine vgS_of HM.out ?_; repeat (first | exact Kept.refl _ _ | with_reducible refine Kept.drew ?_ _ | with_reducible refine Kept.alloc ?_ _ _ | with_reducible refine Kept.setCell ?_ (Or.inl (Nat.le_refl _)) _ | with_reducible refine Kept.trans ?_ (Kept.drew1' _))
            clear hK K
            try simp only [Act.put, List.setIfInBounds_toArray, List.set_cons_zero, List.set_cons_succ]
            refine wpAnyH_ready (rs := [13]) (by kernel_rfl) (by simp) ?_
            refine AllReadyH.cons rfl (fun K hK => ?_) ?_
            · try go_simp
              refine (lerp_any _ _ _ _).mono ?_; rintro e w' ⟨rfl, n, rfl⟩
              refine hK.out _ _ ?_ (fun hHeld => ?_)
              · refine vgS_of HM.out ?_; repeat (first | exact Kept.refl _ _ | with_reducible refine Kept.drew ?_ _ | with_reducible refine Kept.alloc ?_ _ _ | with_reducible refine Kept.setCell ?_ (Or.inl (Nat.le_refl _)) _ | with_reducible refine Kept.trans ?_ (Kept.drew1' _))
              clear hK K
              try simp only [Act.put, List.setIfInBounds_toArray, List.set_cons_zero, List.set_cons_succ]
              refine wpAnyH_ready (rs := [15]) (by kernel_rfl) (by simp) ?_
              refine AllReadyH.cons rfl (fun K hK => ?_) ?_
              · try go_simp
                refine hK.out _ _ ?_ (fun hHeld => ?_)
                · refine vgS_of HM.out ?_; repeat (first | exact Kept.refl _ _ | with_reducible refine Kept.drew ?_ _ | with_reducible refine Kept.alloc ?_ _ _ | with_reducible refine Kept.setCell ?_ (Or.inl (Nat.le_refl _)) _ | with_reducible refine Kept.trans ?_ (Kept.drew1' _))
                clear hK K
                try simp only [Act.put, List.setIfInBounds_toArray, List.set_cons_zero, List.set_cons_succ]
                refine (wpAnyH_done (by kernel_rfl) ?_) _
                refine NoPanic.normal ?_
                go_wp2_with fail
                go_meet
                try rw [hs]
                refine ⟨_, rfl, cell_set_eq (by first | exact hcn _ _ | exact cell_alloc_one W1 _ _ 0), ?_⟩
                repeat (first | exact Kept.refl _ _ | with_reducible refine Kept.drew ?_ _ | with_reducible refine Kept.alloc ?_ _ _ | with_reducible refine Kept.setCell ?_ (Or.inl (Nat.le_refl _)) _ | with_reducible refine Kept.trans ?_ (Kept.drew1' _))
              exact AllReadyH.nil
            exact AllReadyH.nil
          exact AllReadyH.nil
        refine AllReadyH.cons rfl (fun K hK => ?_) ?_
        · try go_simp
          refine hK.out _ _ ?_ (fun hHeld => ?_)
          · refine vgS_of HM.out ?_; repeat (first | exact Kept.refl _ _ | with_reducible refine Kept.drew ?_ _ | with_reducible refine Kept.alloc ?_ _ _ | with_reducible refine Kept.setCell ?_ (Or.inl (Nat.le_refl _)) _ | with_reducible refine Kept.trans ?_ (Kept.drew1' _))
          clear hK K
          try simp only [Act.put, List.setIfInBounds_toArray, List.set_cons_zero, List.set_cons_succ]
          refine wpAnyH_ready (rs := [12]) (by kernel_rfl) (by simp) ?_
          refine AllReadyH.cons rfl (fun K hK => ?_) ?_
          · try go_simp
            refine (smooth_any _ _).mono ?_; rintro e w' ⟨rfl, n, rfl⟩
            refine hK.out _ _ ?_ (fun hHeld => ?_)
            · refine vgS_of HM.out ?_; repeat (first | exact Kept.refl _ _ | with_reducible refine Kept.drew ?_ _ | with_reducible refine Kept.alloc ?_ _ _ | with_reducible refine Kept.setCell ?_ (Or.inl (Nat.le_refl _)) _ | with_reducible refine Kept.trans ?_ (Kept.drew1' _))
            clear hK K
            try simp only [Act.put, List.setIfInBounds_toArray, List.set_cons_zero, List.set_cons_succ]
            refine wpAnyH_ready (rs := [13]) (by kernel_rfl) (by simp) ?_
            refine AllReadyH.cons rfl (fun K hK => ?_) ?_
            · try go_simp
              refine (lerp_any _ _ _ _).mono ?_; rintro e w' ⟨rfl, n, rfl⟩
              refine hK.out _ _ ?_ (fun hHeld => ?_)
              · refine vgS_of HM.out ?_; repeat (first | exact Kept.refl _ _ | with_reducible refine Kept.drew ?_ _ | with_reducible refine Kept.alloc ?_ _ _ | with_reducible refine Kept.setCell ?_ (Or.inl (Nat.le_refl _)) _ | with_reducible refine Kept.trans ?_ (Kept.drew1' _))
              clear hK K
              try simp only [Act.put, List.setIfInBounds_toArray, List.set_cons_zero, List.set_cons_succ]
              refine wpAnyH_ready (rs := [15]) (by kernel_rfl) (by simp) ?_
              refine AllReadyH.cons rfl (fun K hK => ?_) ?_
              · try go_simp
                refine hK.out _ _ ?_ (fun hHeld => ?_)
                · refine vgS_of HM.out ?_; repeat (first | exact Kept.refl _ _ | with_reducible refine Kept.drew ?_ _ | with_reducible refine Kept.alloc ?_ _ _ | with_reducible refine Kept.setCell ?_ (Or.inl (Nat.le_refl _)) _ | with_reducible refine Kept.trans ?_ (Kept.drew1' _))
                clear hK K
                try simp only [Act.put, List.setIfInBounds_toArray, List.set_cons_zero, List.set_cons_succ]
                refine (wpAnyH_done (by kernel_rfl) ?_) _
                refine NoPanic.normal ?_
                go_wp2_with fail
                go_meet
                try rw [hs]
                refine ⟨_, rfl, cell_set_eq (by first | exact hcn _ _ | exact cell_alloc_one W1 _ _ 0), ?_⟩
                repeat (first | exact Kept.refl _ _ | with_reducible refine Kept.drew ?_ _ | with_reducible refine Kept.alloc ?_ _ _ | with_reducible refine Kept.setCell ?_ (Or.inl (Nat.le_refl _)) _ | with_reducible refine Kept.trans ?_ (Kept.drew1' _))
              exact AllReadyH.nil
            exact AllReadyH.nil
          exact AllReadyH.nil
        exact AllReadyH.nil
      refine AllReadyH.cons rfl (fun K hK => ?_) ?_
      · try go_simp
        refine hK.out _ _ ?_ (fun hHeld => ?_)
        · refine vgS_of HM.out ?_; repeat (first | exact Kept.refl _ _ | with_reducible refine Kept.drew ?_ _ | with_reducible refine Kept.alloc ?_ _ _ | with_reducible refine Kept.setCell ?_ (Or.inl (Nat.le_refl _)) _ | with_reducible refine Kept.trans ?_ (Kept.drew1' _))
        clear hK K
        try simp only [Act.put, List.setIfInBounds_toArray, List.set_cons_zero, List.set_cons_succ]
        refine wpAnyH_ready (rs := [11]) (by kernel_rfl) (by simp) ?_
        refine AllReadyH.cons rfl (fun K hK => ?_) ?_
        · try go_simp
          refine hK.out _ _ ?_ (fun hHeld => ?_)
          · refine vgS_of HM.out ?_; repeat (first | exact Kept.refl _ _ | with_reducible refine Kept.drew ?_ _ | with_reducible refine Kept.alloc ?_ _ _ | with_reducible refine Kept.setCell ?_ (Or.inl (Nat.le_refl _)) _ | with_reducible refine Kept.trans ?_ (Kept.drew1' _))
          clear hK K
          try simp only [Act.put, List.setIfInBounds_toArray, List.set_cons_zero, List.set_cons_succ]
          refine wpAnyH_ready (rs := [12]) (by kernel_rfl) (by simp) ?_
          refine AllReadyH.cons rfl (fun K hK => ?_) ?_
          · try go_simp
            refine (smooth_any _ _).mono ?_; rintro e w' ⟨rfl, n, rfl⟩
            refine hK.out _ _ ?_ (fun hHeld => ?_)
            · refine vgS_of HM.out ?_; repeat (first | exact Kept.refl _ _ | with_reducible refine Kept.drew ?_ _ | with_reducible refine Kept.alloc ?_ _ _ | with_reducible refine Kept.setCell ?_ (Or.inl (Nat.le_refl _)) _ | with_reducible refine Kept.trans ?_ (Kept.drew1' _))
            clear hK K
            try simp only [Act.put, List.setIfInBounds_toArray, List.set_cons_zero, List.set_cons_succ]
            refine wpAnyH_ready (rs := [13]) (by kernel_rfl) (by simp) ?_
            refine AllReadyH.cons rfl (fun K hK => ?_) ?_
            · try go_simp
              refine (lerp_any _ _ _ _).mono ?_; rintro e w' ⟨rfl, n, rfl⟩
              refine hK.out _ _ ?_ (fun hHeld => ?_)
              · refine vgS_of HM.out ?_; repeat (first | exact Kept.refl _ _ | with_reducible refine Kept.drew ?_ _ | with_reducible refine Kept.alloc ?_ _ _ | with_reducible refine Kept.setCell ?_ (Or.inl (Nat.le_refl _)) _ | with_reducible refine Kept.trans ?_ (Kept.drew1' _))
              clear hK K
              try simp only [Act.put, List.setIfInBounds_toArray, List.set_cons_zero, List.set_cons_succ]
              refine wpAnyH_ready (rs := [15]) (by kernel_rfl) (by simp) ?_
              refine AllReadyH.cons rfl (fun K hK => ?_) ?_
              · try go_simp
                refine hK.out _ _ ?_ (fun hHeld => ?_)
                · refine vgS_of HM.out ?_; repeat (first | exact Kept.refl _ _ | with_reducible refine Kept.drew ?_ _ | with_reducible refine Kept.alloc ?_ _ _ | with_reducible refine Kept.setCell ?_ (Or.inl (Nat.le_refl _)) _ | with_reducible refine Kept.trans ?_ (Kept.drew1' _))
                clear hK K
                try simp only [Act.put, List.setIfInBounds_toArray, List.set_cons_zero, List.set_cons_succ]
                refine (wpAnyH_done (by kernel_rfl) ?_) _
                refine NoPanic.normal ?_
                go_wp2_with fail
                go_meet
                try rw [hs]
                refine ⟨_, rfl, cell_set_eq (by first | exact hcn _ _ | exact cell_alloc_one W1 _ _ 0), ?_⟩
                repeat (first | exact Kept.refl _ _ | with_reducible refine Kept.drew ?_ _ | with_reducible refine Kept.alloc ?_ _ _ | with_reducible refine Kept.setCell ?_ (Or.inl (Nat.le_refl _)) _ | with_reducible refine Kept.trans ?_ (Kept.drew1' _))
              exact AllReadyH.nil
            exact AllReadyH.nil
          exact AllReadyH.nil
        exact AllReadyH.nil
      exact AllReadyH.nil
      -- END
  case rest =>
    obtain ⟨P, rfl, hm, hk⟩ := hcut
    have q0 := hk.some (K1.out.some p0' id) id
    have q1 := hk.some (K1.out.some p1' id) id
    have q2 := hk.some (K1.out.some p2' id) id
    have q3 := hk.some (K1.out.some p3' id) id
    have k2 := K1.out.trans hk
    have K2 := Lib.hid k2
    clear hk k2 u2 u3 u4 l1 hcn hfn
    go_wp2_with (first
      | (go_at_call 66; refine (three_vig _ _ _ _ _ _ _ hm).mono ?_; rintro e w4 ⟨rfl, hk4⟩
         have k4 := K2.out.trans hk4
         have r0 := k4.some s0 id
         have r1 := k4.some s1 id
         have r2 := k4.some s2 id
         have r3 := k4.some s3 id
         have z0 := (k4.frozen ⟨w.heap.size + 1 + 1, 0, none⟩).trans (Z0.out ⟨w.heap.size + 1 + 1, 0, none⟩ (by simp; omega))
         have z1 := (k4.frozen ⟨w.heap.size + 1 + 1, 1, none⟩).trans (Z0.out ⟨w.heap.size + 1 + 1, 1, none⟩ (by simp; omega))
         have z2 := (k4.frozen ⟨w.heap.size + 1 + 1, 2, none⟩).trans (Z0.out ⟨w.heap.size + 1 + 1, 2, none⟩ (by simp; omega))
         have z3 := (k4.frozen ⟨w.heap.size + 1 + 1, 3, none⟩).trans (Z0.out ⟨w.heap.size + 1 + 1, 3, none⟩ (by simp; omega))
         have K4 := Lib.hid k4
         clear k4 hk4)
      | fail)
    have cs := cells_set4 (v0 := .float .f32 (fC .mul .f32 p0 (dkM X Y I O D px py))) (v1 := .float .f32 (fC .mul .f32 p1 (dkM X Y I O D px py))) (v2 := .float .f32 (fC .mul .f32 p2 (dkM X Y I O D px py))) (v3 := .float .f32 (cl .f32 p3)) r0 r1 r2 r3
    refine bodyPost_ret (px_ret Try.results94 _ _ (w.heap.size + 1 + 1) _ _ _ _ cs.1 cs.2.1 cs.2.2.1 cs.2.2.2 rfl) rfl ?_
    refine ⟨rfl, ?_⟩
    have kk := K0.out.trans K4.out
    exact (((kk.setCell (Or.inl (by simp; omega)) _).setCell (Or.inl (by simp; omega)) _).setCell (Or.inl (by simp; omega)) _).setCell (Or.inl (by simp; omega)) _
end Go.Proofs.Ytfphhlodfieopaa
