/- the document's CRC and Seal. -/
import Derived.Test.YtjhndppmpldfbaaDoorOC
namespace Go.Proofs.YtjhndppmpldfbaaDoor
open Go Go.RowKit

theorem bitsGo_lt (c x : Nat) (hc : c < 4294967296) : ∀ k, bitsGo c x k < 4294967296 := by
  intro k
  induction k with
  | zero => exact hc
  | succ k ih =>
    show bitStep _ x k < _
    have h1 : bitsGo c x k / 2 < 2 ^ 32 := by omega
    unfold bitStep
    split
    · exact Nat.xor_lt_two_pow (n := 32) h1 (by decide)
    · omega
theorem and1_u32 (a : Nat) (ha : a < 4294967296) : bits .and .u32 (a : Int) 1 = ((a % 2 : Nat) : Int) := by
  have := u32_and_nat a 1 ha (by omega)
  rwa [nat_mask1] at this
set_option maxHeartbeats 1600000 in
theorem refCrc_c {v : Value} {xs : List UInt8} {w : World} (h : RdB w v xs) (hb : xs.length ≤ 1000000000000) :
    Calls Tryd.prog 19 #[v] w fun e w' => e = .returned (.int .u32 ((crc xs : Nat) : Int)) ∧ w = w' := by
  obtain ⟨A, c, rfl, hc⟩ := h.form
  go_enter Tryd.func19, Tryd.ntmps19
  go_wp2_with fail
  go_loop [3, 4] (fun s i => ∃ k : Nat, k ≤ xs.length ∧ i = .int .i64 k ∧ s = .int .u32 ((crcGo 4294967295 (xs.take k) : Nat) : Int)) (fun _ i => xs.length - (intOf i).toNat)
  case atStart => exact ⟨0, Nat.zero_le _, rfl, rfl⟩
  case round =>
    obtain ⟨k, hk, rfl, rfl⟩ := hrel
    by_cases hlt : k < xs.length
    · obtain ⟨ad, rfl, hcell⟩ := h.at_ k hlt
      have hs := crcGo_snoc 4294967295 (xs.take k) xs[k]
      rw [← List.take_succ_eq_append_getElem hlt] at hs
      rw [← bits8 _ _ (UInt8.toNat_lt _)] at hs
      have HS := Lib.hid hs
      have hlt2 := crcGo_lt (xs.take k) 4294967295 (by decide)
      clear hs h
      generalize crcGo 4294967295 (xs.take k) = a at *
      generalize xs[k]'(by omega) = b at *
      simp only [bv] at hcell
      have hb256 := b.toNat_lt
      go_wp2_with fail
      go_loop [3, 5, 6, 7] (fun s j _ _ => ∃ m : Nat, m ≤ 8 ∧ j = .int .i64 m ∧ s = .int .u32 ((bitsGo a b.toNat m : Nat) : Int)) (fun _ j _ _ => 8 - (intOf j).toNat)
      case atStart => exact ⟨0, by omega, rfl, rfl⟩
      case round =>
        obtain ⟨m, hm, rfl, rfl⟩ := hrel
        by_cases hlm : m < 8
        · have hq := bitsGo_lt a b.toNat hlt2 m
          have hn : bitsGo a b.toNat (m + 1) = bitStep (bitsGo a b.toNat m) b.toNat m := rfl
          have HN := Lib.hid hn
          clear hn
          generalize bitsGo a b.toNat m = z at *
          have e1 := and1_u32 z hq
          have hdiv : b.toNat / 2 ^ m < 256 := Nat.lt_of_le_of_lt (Nat.div_le_self _ _) (by omega)
          have e2 : bits .and .u32 ((b.toNat : Int) / 2 ^ m % 4294967296) 1 = ((b.toNat / 2 ^ m % 2 : Nat) : Int) := by
            rw [← and1_u32 _ (by omega)]
            congr 1
            have : ((b.toNat / 2 ^ m : Nat) : Int) = (b.toNat : Int) / 2 ^ m := by rw [Int.natCast_ediv]; simp
            rw [← this]
            generalize b.toNat / 2 ^ m = y at *
            omega
          obtain ⟨q, hq2⟩ : ∃ q, q = b.toNat / 2 ^ m % 2 := ⟨_, rfl⟩
          rw [← hq2] at e2
          have HQ := Lib.hid hq2
          clear hq2 hdiv
          have e3 : bits .xor .u32 ((z : Int) / 2) 3988292384 = ((z / 2 ^^^ 3988292384 : Nat) : Int) := by have := xor_u32 (z / 2) 3988292384 (by omega) (by omega); simpa using this
          by_cases ht : z % 2 = q
          · have t1 : ((z : Int) % 2 != (q : Int)) = false := by simp; omega
            have HT := Lib.hid ht
            clear ht
            go_wp2
            go_round
            case rel => exact ⟨m + 1, by omega, by go_num, by rw [HN.out, bitStep, if_neg (by rw [← HQ.out, HT.out]; simp)]; go_num⟩
            case measure => exact meas_up hlm
          · have t1 : ((z : Int) % 2 != (q : Int)) = true := by simp; omega
            have HT := Lib.hid ht
            clear ht
            go_wp2
            go_round
            case rel => exact ⟨m + 1, by omega, by go_num, by rw [HN.out, bitStep, if_pos (by rw [← HQ.out]; exact HT.out)]⟩
            case measure => exact meas_up hlm
        · obtain rfl : m = 8 := by omega
          rw [← HS.out]
          clear HS
          go_wp2
          go_round
          case rel => exact ⟨k + 1, by omega, by go_num, rfl⟩
          case measure => exact meas_up hlt
    · obtain rfl : k = xs.length := by omega
      clear h
      have e1 := xor_u32 (crcGo 4294967295 xs) 4294967295 (crcGo_lt xs _ (by decide)) (by omega)
      go_wp2
      go_ret
      exact ⟨congrArg (fun z => Ending.returned (.int .u32 z)) e1, rfl⟩

set_option maxHeartbeats 800000 in
theorem refSl_c {v : Value} {xs : List UInt8} {w : World} (h : RdB w v xs) (hb : xs.length ≤ 100000000000) :
    Calls Tryd.prog 46 #[v] w (GotB 5 w (sl xs)) := by
  have hlt := crc_lt xs
  obtain ⟨A, c, rfl, hc⟩ := h.form
  go_enter Tryd.func46, Tryd.ntmps46
  go_wp2_with fail
  refine (refCrc_c h (by omega)).mono ?_
  rintro e w1 ⟨rfl, rfl⟩
  have hz := sl4_cells (crc xs) hlt
  have hsl : sl xs = sl4 (crc xs) := rfl
  generalize crc xs = z at *
  have HS := Lib.hid hsl
  clear hsl
  have o := OwB.lit w 5 (sl4 z) _ hz (by simp [sl4])
  have hl4 : (sl4 z).length = 4 := rfl
  rw [hl4] at o
  have HO := Lib.hid o
  clear hz o h hl4
  go_wp2
  go_ret
  rw [HS.out]
  refine got_of (HO.out.wide ?_) ((Kp.refl _ _).alloc _)
  exact fun k h0 h1 => ⟨h1.1, h0⟩
set_option maxHeartbeats 800000 in
theorem refSealed_c {v : Value} {xs : List UInt8} {w : World} (h : RdB w v xs) (hb : xs.length ≤ 100000000000) :
    Calls Tryd.prog 20 #[v] w (GotB 5 w (xs ++ sl xs)) := by
  obtain ⟨v1, w1, r1, o1, k1⟩ := run_appB_nil (P := Tryd.prog) (ty := 22) w Tryd.underlying22 u8info h (by omega)
  have hl := sl_length xs
  obtain ⟨A, c, rfl, hc⟩ := h.form
  go_enter Tryd.func20, Tryd.ntmps20
  go_wp2_with (refine app_op r1 rfl rfl ?_)
  refine (refSl_c (h.keepN k1) (by omega)).mono ?_
  rintro e w2 ⟨v2, rfl, o2, k2⟩
  obtain ⟨v3, w3, r3, o3, k3, _⟩ := run_appB (P := Tryd.prog) (ty := 22) w2 Tryd.underlying22 u8info (o1.keepN k2) o2.readsB (by omega)
  have hz1 := k1.size
  have hz2 := k2.size
  have hz3 := k3.size
  clear hl
  go_wp2_with (refine app_op r3 rfl rfl ?_)
  go_ret
  exact got_of (o3.wide (fun k h0 h1 => ⟨by omega, h0⟩)) ((k1.thenN k2).fresh (k3.own o1.fit) (fun i h1 => by omega))
end Go.Proofs.YtjhndppmpldfbaaDoor
