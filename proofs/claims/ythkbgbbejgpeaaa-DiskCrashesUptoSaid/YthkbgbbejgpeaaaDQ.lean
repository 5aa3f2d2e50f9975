/- A sector's text that tells numbers apart: fill. -/
import Derived.Test.YthkbgbbejgpeaaaDH
namespace Go.Proofs.Ythkbgbbejgpeaaa
open Go Go.RowKit
set_option maxRecDepth 100000

def fillAt (n i : Nat) : UInt8 := if i = 0 then UInt8.ofNat n else if i = 1 then UInt8.ofNat (n / 256) else if i = 2 then UInt8.ofNat (n / 65536) else UInt8.ofNat (n % 251 + i)
def fillB (n : Nat) : List UInt8 := (List.range 128).map (fillAt n)
theorem fillB_len (n : Nat) : (fillB n).length = 128 := by simp [fillB]
def fillI (n k : Nat) : List UInt8 := (List.range k).map (fillAt n) ++ List.replicate (128 - k) 0
theorem fillI_len (n k : Nat) (h : k ≤ 128) : (fillI n k).length = 128 := by simp [fillI]; omega
theorem fillI_end (n : Nat) : fillI n 128 = fillB n := by simp [fillI, fillB]
theorem fillI_set (n k : Nat) (h : k < 128) : (fillI n k).set k (fillAt n k) = fillI n (k + 1) := by
  unfold fillI
  rw [List.set_append, if_neg (by simp), List.range_succ, List.map_append, List.append_assoc]
  congr 1
  have : 128 - k = (128 - (k + 1)) + 1 := by omega
  rw [this, List.replicate_succ]
  simp
theorem byteN (n : Nat) : Value.int .u8 (((n : Int)) % 256) = bv (UInt8.ofNat n) := by
  simp [bv]
def FillP (n : Nat) (w : World) (e : Ending) (w' : World) : Prop := ∃ v, e = .returned v ∧ OwB w' 5 (Iv w.heap.size w'.heap.size) v (fillB n) ∧ KpN w w'
/-- a row of zeros -/
theorem made_zeros (w : World) (n : Nat) (hn : n ≤ 1000000000) : ∃ W1, (Instr.makeSlice 28 (.int .i64 (n : Int)) (.int .i64 (n : Int))).run Try.prog w = .ok (.slice (some ⟨w.heap.size, 0, none⟩) n n) W1 ∧ OwB W1 5 (fun b => b = w.heap.size) (.slice (some ⟨w.heap.size, 0, none⟩) n n) (List.replicate n 0) ∧ KpN w W1 ∧ W1.heap.size = w.heap.size + 1 := by
  refine ⟨_, run_mk (t := 28) Try.underlying28 u8Info n (by omega) hn w, ?_, (Kp.refl _ w).alloc _, by simp⟩
  have e : (madeCells (Value.int .u8 0).cells (n * 1)).toList = bvs (List.replicate n 0) := by
    rw [show (Value.int .u8 0).cells = #[.int .u8 0] from rfl]
    apply List.ext_getElem
    · simp [madeCells, bvs]
    · intro i h1 h2
      simp [madeCells, bvs, bv, Nat.mod_one]
  have := OwC.lit w 5 1 n (madeCells (Value.int .u8 0).cells (n * 1)) (by simp only [maxLen]; omega) (by rw [size_madeCells])
  rw [e] at this
  unfold OwB
  rw [List.length_replicate]
  exact this.wide (fun b _ hb => by have := hb.1; have := hb.2; omega)
theorem fillI3 (n : Nat) : (((List.replicate 128 (0 : UInt8)).set 0 (fillAt n 0)).set 1 (fillAt n 1)).set 2 (fillAt n 2) = fillI n 3 := by
  rw [show List.replicate 128 (0 : UInt8) = fillI n 0 by simp [fillI], fillI_set n 0 (by omega), fillI_set n 1 (by omega), fillI_set n 2 (by omega)]
set_option maxHeartbeats 1600000 in
theorem fill_c {w : World} {n : Nat} (hn : n ≤ 1000000000000) : Calls Try.prog 28 #[.int .i64 (n : Int)] w (FillP n w) := by
  obtain ⟨W1, hmk, ho, k1, hz⟩ := made_zeros w 128 (by omega)
  rw [show ((128 : Nat) : Int) = 128 from rfl] at hmk
  have c0 : W1.cell? ⟨w.heap.size, 0, none⟩ = some (.int .u8 0) := ho.byteAt rfl 0 (by simp)
  have c1 : W1.cell? ⟨w.heap.size, 1, none⟩ = some (.int .u8 0) := ho.byteAt rfl 1 (by simp)
  have c2 : W1.cell? ⟨w.heap.size, 2, none⟩ = some (.int .u8 0) := ho.byteAt rfl 2 (by simp)
  have z0 := ho.frozenAt 0
  have z1 := ho.frozenAt 1
  have z2 := ho.frozenAt 2
  have ho3 := ((ho.putB rfl 0 (fillAt n 0)).putB (by simp) 1 (fillAt n 1)).putB (by simp) 2 (fillAt n 2)
  rw [fillI3] at ho3
  have k3 := ((k1.setCell (p := ⟨w.heap.size, 0, none⟩) (.inr (Nat.le_refl _)) (bv (fillAt n 0))).setCell (p := ⟨w.heap.size, 1, none⟩) (.inr (Nat.le_refl _)) (bv (fillAt n 1))).setCell (p := ⟨w.heap.size, 2, none⟩) (.inr (Nat.le_refl _)) (bv (fillAt n 2))
  have e0 : bv (fillAt n 0) = .int .u8 ((n : Int) % 256) := (byteN n).symm
  have e1 : bv (fillAt n 1) = .int .u8 ((n : Int) / 256 % 256) := (byteN (n / 256)).symm
  have e2 : bv (fillAt n 2) = .int .u8 ((n : Int) / 65536 % 256) := (byteN (n / 65536)).symm
  rw [e0, e1, e2] at ho3 k3
  have HO := Lib.hid ho3
  clear hz ho ho3 e0 e1 e2
  go_enter Try.func28, Try.ntmps28
  go_wp2_with fail
  go_loopw [4] (fun j wr => ∃ k : Nat, 3 ≤ k ∧ k ≤ 128 ∧ j = .int .i64 k ∧ OwB wr 5 (fun b => b = w.heap.size) (.slice (some ⟨w.heap.size, 0, none⟩) 128 128) (fillI n k) ∧ KpN w wr) (fun j _ => 128 - (intOf j).toNat)
  case atStart => exact ⟨3, by omega, by omega, rfl, HO.out, k3⟩
  case round =>
    obtain ⟨k, h3, hk, rfl, ho, hkp⟩ := hrel
    by_cases hlt : k < 128
    · have hl := fillI_len n k hk
      have ck := ho.byteAt hl.symm k (by omega)
      have zk := ho.frozenAt k
      have hp := ho.putB hl.symm k (fillAt n k)
      rw [fillI_set n k hlt] at hp
      have kp := hkp.setCell (p := ⟨w.heap.size, k, none⟩) (.inr (Nat.le_refl _)) (bv (fillAt n k))
      have e : bv (fillAt n k) = .int .u8 (((n : Int) % 251 + (k : Int)) % 256) := by
        rw [fillAt, if_neg (by omega), if_neg (by omega), if_neg (by omega), ← byteN]
        congr 1
      rw [e] at hp kp
      have HP := Lib.hid hp
      obtain ⟨b, hb⟩ : ∃ b, bv ((fillI n k)[k]'(by omega)) = b := ⟨_, rfl⟩
      rw [hb] at ck
      clear hl ho hp e hb c0 c1 c2 z0 z1 z2 hmk k3
      go_wp2_with fail
      go_roundw
      case rel => exact ⟨k + 1, by omega, by omega, by go_num, HP.out, kp⟩
      case measure => exact meas_up hlt
    · obtain rfl : k = 128 := by omega
      clear c0 c1 c2 z0 z1 z2 hmk k3
      go_wp2_with fail
      go_ret
      rw [fillI_end] at ho
      exact ⟨_, rfl, ho.wide (fun b hb e => by subst e; exact ⟨Nat.le_refl _, hb⟩), hkp⟩
end Go.Proofs.Ythkbgbbejgpeaaa
