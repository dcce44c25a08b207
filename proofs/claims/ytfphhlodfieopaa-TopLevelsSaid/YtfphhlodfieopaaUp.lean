/- Small maps that a call makes and looks into; words of bytes. Conditions: none. -/
import Derived.Test.YtfphhlodfieopaaPq
import Derived.WideMake
import Derived.Laws.MakeOwn
namespace Go.Proofs.Ytfphhlodfieopaa
open Go.RowKit
open BigFrame

theorem set_push {α : Type} (l : Array α) (a b : α) : (l.push a).setIfInBounds l.size b = l.push b := by
  apply Array.ext'
  simp
section
variable {P : Program}
theorem mu_new (w : World) (mty kt et : TypeId) (k : IntKind) (es : Array MapEntry) (c : Nat) (x : Int) (v : Value) (hm : P.underlying mty = some (.map kt et)) (hk : P.underlying kt = some (.int k)) (hf : Instr.findNow (.int k) (.int k x) es.toList 0 = some none) :
    (Instr.mapUpdate mty (.map (some w.heap.size)) (.int k x) v).run P (w.alloc (.map es c)) = .ok () (w.alloc (.map (es.push { key := .int k x, val := v, born := c }) (c + 1))) := by
  have hb : (w.alloc (.map es c)).heap[w.heap.size]? = some (.map es c) := heap_alloc_new w _
  have hc : (Instr.checkKey false 10000 kt (.int k x)).run P (w.alloc (.map es c)) = .ok () (w.alloc (.map es c)) := MapKept.run_checkKey (k := .int k x) hk (by simp [MapKept.IsKey]) false 9999
  simp [Instr.mapUpdate, run_underlying hm, MapKept.run_getObj_map hb, hc, MapKept.run_findKey hk hf, MapKept.run_setObj_map _ hb, Result.andThen]
  simp [World.alloc, -World.alloc_eq]
  exact set_push _ _ _
theorem lk_some (w : World) (mty kt et : TypeId) (k : IntKind) (es : Array MapEntry) (c i : Nat) (x : Int) (v : Value) (hm : P.underlying mty = some (.map kt et)) (hk : P.underlying kt = some (.int k)) (hf : Instr.findNow (.int k) (.int k x) es.toList 0 = some (some (i, v))) :
    (Instr.lookup mty (.map (some w.heap.size)) (.int k x) false).run P (w.alloc (.map es c)) = .ok v (w.alloc (.map es c)) := by
  have hb : (w.alloc (.map es c)).heap[w.heap.size]? = some (.map es c) := heap_alloc_new w _
  have hc : (Instr.checkKey es.isEmpty 10000 kt (.int k x)).run P (w.alloc (.map es c)) = .ok () (w.alloc (.map es c)) := MapKept.run_checkKey (k := .int k x) hk (by simp [MapKept.IsKey]) _ 9999
  simp [Instr.lookup, run_underlying hm, MapKept.run_getObj_map hb, hc, MapKept.run_findKey hk hf, Result.andThen]
end
def ent (k : Int) (v : Value) (c : Nat) : MapEntry := { key := .int .i64 k, val := v, born := c }
theorem mu1 (w : World) (v : Value) : (Instr.mapUpdate 103 (.map (some w.heap.size)) (.int .i64 8) v).run Try.prog (w.alloc (.map #[] 0)) = .ok () (w.alloc (.map #[ent 8 v 0] 1)) := mu_new w _ _ _ .i64 #[] 0 8 v Try.underlying103 Try.underlying3 rfl
theorem mu2 (w : World) (v v1 : Value) : (Instr.mapUpdate 103 (.map (some w.heap.size)) (.int .i64 16) v).run Try.prog (w.alloc (.map #[ent 8 v1 0] 1)) = .ok () (w.alloc (.map #[ent 8 v1 0, ent 16 v 1] 2)) := mu_new w _ _ _ .i64 #[ent 8 v1 0] 1 16 v Try.underlying103 Try.underlying3 rfl
theorem mu3 (w : World) (v v1 v2 : Value) : (Instr.mapUpdate 103 (.map (some w.heap.size)) (.int .i64 10) v).run Try.prog (w.alloc (.map #[ent 8 v1 0, ent 16 v2 1] 2)) = .ok () (w.alloc (.map #[ent 8 v1 0, ent 16 v2 1, ent 10 v 2] 3)) := mu_new w _ _ _ .i64 #[ent 8 v1 0, ent 16 v2 1] 2 10 v Try.underlying103 Try.underlying3 rfl
theorem lk8 (w : World) (v v1 v2 : Value) : (Instr.lookup 103 (.map (some w.heap.size)) (.int .i64 8) false).run Try.prog (w.alloc (.map #[ent 8 v1 0, ent 16 v2 1, ent 10 v 2] 3)) = .ok v1 (w.alloc (.map #[ent 8 v1 0, ent 16 v2 1, ent 10 v 2] 3)) := lk_some w _ _ _ .i64 _ 3 0 8 v1 Try.underlying103 Try.underlying3 rfl
theorem lk16 (w : World) (v v1 v2 : Value) : (Instr.lookup 103 (.map (some w.heap.size)) (.int .i64 16) false).run Try.prog (w.alloc (.map #[ent 8 v1 0, ent 16 v2 1, ent 10 v 2] 3)) = .ok v2 (w.alloc (.map #[ent 8 v1 0, ent 16 v2 1, ent 10 v 2] 3)) := lk_some w _ _ _ .i64 _ 3 1 16 v2 Try.underlying103 Try.underlying3 rfl
theorem lk10 (w : World) (v v1 v2 : Value) : (Instr.lookup 103 (.map (some w.heap.size)) (.int .i64 10) false).run Try.prog (w.alloc (.map #[ent 8 v1 0, ent 16 v2 1, ent 10 v 2] 3)) = .ok v (w.alloc (.map #[ent 8 v1 0, ent 16 v2 1, ent 10 v 2] 3)) := lk_some w _ _ _ .i64 _ 3 2 10 v Try.underlying103 Try.underlying3 rfl

/-- The i-th byte of a string. -/
def sB (s : ByteArray) (i : Nat) : Int := ((s.data.toList.getD i 0).toNat : Int)
theorem sB_in (s : ByteArray) (i : Nat) : 0 ≤ sB s i ∧ sB s i ≤ 255 := by
  unfold sB
  have := (s.data.toList.getD i 0).toNat_lt
  omega
theorem sB_at (s : ByteArray) (i : Nat) (h : i < s.size) : (s[i].toNat : Int) = sB s i := by
  have h2 : i < s.data.toList.length := by simpa using h
  unfold sB
  rw [List.getD_eq_getElem?_getD, List.getElem?_eq_getElem h2]
  rfl
/-- The word of the bytes from p on, k of them through. -/
def wd (s : ByteArray) (p : Nat) : Nat → Int
  | 0 => 0
  | k + 1 => wd s p k * 256 + sB s (p + k)
theorem wd_in (s : ByteArray) (p : Nat) : (0 ≤ wd s p 1 ∧ wd s p 1 ≤ 255) ∧ (0 ≤ wd s p 2 ∧ wd s p 2 ≤ 65535) ∧ (0 ≤ wd s p 3 ∧ wd s p 3 ≤ 16777215) ∧ 0 ≤ wd s p 4 ∧ wd s p 4 ≤ 4294967295 := by
  have h0 := sB_in s p
  have h1 := sB_in s (p + 1)
  have h2 := sB_in s (p + 2)
  have h3 := sB_in s (p + 3)
  simp only [wd, Nat.add_zero] at *
  omega
theorem or_256 (u v : Int) (u1 : 0 ≤ u) (u2 : u ≤ 16777215) (v1 : 0 ≤ v) (v2 : v ≤ 255) : bits .or .i64 (u * 256) v = u * 256 + v := by
  obtain ⟨a, rfl⟩ := Int.eq_ofNat_of_zero_le u1
  obtain ⟨b, rfl⟩ := Int.eq_ofNat_of_zero_le v1
  have h1 : (BitVec.ofInt 64 ((a : Int) * 256)).toNat = a * 256 := by
    rw [show ((a : Int) * 256) = ((a * 256 : Nat) : Int) by omega, BitVec.ofInt_natCast, BitVec.toNat_ofNat]; omega
  have h2 : (BitVec.ofInt 64 (b : Int)).toNat = b := by rw [BitVec.ofInt_natCast, BitVec.toNat_ofNat]; omega
  have h3 : bits .or .i64 ((a : Int) * 256) (b : Int) = IntKind.i64.wrap ((BitVec.ofInt 64 ((a : Int) * 256) ||| BitVec.ofInt 64 (b : Int)).toNat : Nat) := rfl
  rw [h3, BitVec.toNat_or, h1, h2]
  have h4 : a * 256 ||| b = a * 256 + b := by
    have := Nat.two_pow_add_eq_or_of_lt (i := 8) (show b < 2 ^ 8 by omega) a
    rw [Nat.mul_comm a 256]
    exact this.symm
  rw [h4, IntWalk.i64_in _ (by omega)]
  omega
end Go.Proofs.Ytfphhlodfieopaa
