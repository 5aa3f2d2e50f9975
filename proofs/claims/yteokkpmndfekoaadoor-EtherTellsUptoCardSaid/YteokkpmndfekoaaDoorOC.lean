/- octet.CRC with its table, Seal. -/
import Derived.Test.YteokkpmndfekoaaDoorO2
import Derived.Test.YteokkpmndfekoaaDoorP2
import Derived.Lib.LaidTab
namespace Go.Proofs.YteokkpmndfekoaaDoor
open Go Go.RowKit
set_option maxRecDepth 100000

/-- the table of sixteen lies where the program keeps it -/
def TabOk (w : World) : Prop := ∀ j, j < 16 → w.cell? ⟨1, j, none⟩ = some (.int .u32 ((tb j : Nat) : Int))
theorem TabOk.keep {w w' : World} (h : TabOk w) {F : Nat → Prop} (k : Kp F w w') (hF : ¬ F 1) : TabOk w' := fun j hj => by
  have := h j hj
  rw [k.cell (World.block_lt_of_cell? w _ this) hF]
  exact this
theorem TabOk.keepN {w w' : World} (h : TabOk w) (k : KpN w w') : TabOk w' := h.keep k (fun x => x)
theorem TabOk.pos {w : World} (h : TabOk w) : 1 < w.heap.size := World.block_lt_of_cell? w _ (h 0 (by omega))
theorem xor_u32 (a b : Nat) (ha : a < 4294967296) (hb : b < 4294967296) : bits .xor .u32 (a : Int) (b : Int) = ((a ^^^ b : Nat) : Int) := u32_xor_nat a b ha hb
theorem and15 (a : Nat) (ha : a < 4294967296) : bits .and .u32 (a : Int) 15 = ((a % 16 : Nat) : Int) := by
  have := u32_and_nat a 15 ha (by omega)
  rwa [nat_mask4] at this
theorem tab_lt (j : Nat) : tb j < 4294967296 := by
  unfold tb
  have : ∀ z ∈ tab, z < 4294967296 := by decide
  rcases Nat.lt_or_ge j tab.length with h | h
  · rw [List.getD_eq_getElem?_getD, List.getElem?_eq_getElem h]
    exact this _ (List.getElem_mem h)
  · rw [List.getD_eq_getElem?_getD, List.getElem?_eq_none h]
    decide
theorem s4_bits (x : Nat) (h : x < 4294967296) : bits .xor .u32 ((tb (x % 16) : Nat) : Int) ((x : Int) / 16) = ((s4 x : Nat) : Int) := by
  have := xor_u32 (tb (x % 16)) (x / 16) (tab_lt _) (by omega)
  rwa [Int.natCast_ediv] at this
set_option maxHeartbeats 800000 in
theorem crc_c {v : Value} {xs : List UInt8} {w : World} (h : RdB w v xs) (ht : TabOk w) (hb : xs.length ≤ 1000000000000) :
    Calls Tryd.prog 37 #[v] w fun e w' => e = .returned (.int .u32 ((crc xs : Nat) : Int)) ∧ w = w' := by
  obtain ⟨A, c, rfl, hc⟩ := h.form
  go_enter Tryd.func37, Tryd.ntmps37
  go_wp2_with fail
  go_loop [3, 8] (fun s i => ∃ k : Nat, k ≤ xs.length ∧ i = .int .i64 k ∧ s = .int .u32 ((crcGo 4294967295 (xs.take k) : Nat) : Int)) (fun _ i => xs.length - (intOf i).toNat)
  case atStart => exact ⟨0, Nat.zero_le _, rfl, rfl⟩
  case round =>
    obtain ⟨k, hk, rfl, rfl⟩ := hrel
    by_cases hlt : k < xs.length
    · obtain ⟨ad, rfl, hcell⟩ := h.at_ k hlt
      have hs := crcGo_snoc 4294967295 (xs.take k) xs[k]
      rw [← List.take_succ_eq_append_getElem hlt] at hs
      have HS := Lib.hid hs
      have hlt2 := crcGo_lt (xs.take k) 4294967295 (by decide)
      clear hs h
      generalize crcGo 4294967295 (xs.take k) = a at *
      generalize xs[k]'(by omega) = b at *
      simp only [bv] at hcell
      have hb256 := b.toNat_lt
      have e1 := xor_u32 a b.toNat hlt2 (by omega)
      have ha1 : a ^^^ b.toNat < 4294967296 := Nat.xor_lt_two_pow (n := 32) hlt2 (by omega)
      have e2 := and15 (a ^^^ b.toNat) ha1
      have c1 := ht ((a ^^^ b.toNat) % 16) (by omega)
      have e3 := s4_bits (a ^^^ b.toNat) ha1
      have ha2 := s4_lt (a ^^^ b.toNat) ha1
      have e4 := and15 (s4 (a ^^^ b.toNat)) ha2
      have c2 := ht (s4 (a ^^^ b.toNat) % 16) (by omega)
      have e5 := s4_bits (s4 (a ^^^ b.toNat)) ha2
      go_wp2
      go_round
      case rel => exact ⟨k + 1, by omega, by go_num, by rw [HS.out]; rfl⟩
      case measure => exact meas_up hlt
    · obtain rfl : k = xs.length := by omega
      clear h
      go_wp2
      go_ret
      refine ⟨?_, rfl⟩
      have := xor_u32 4294967295 (crcGo 4294967295 xs) (by omega) (crcGo_lt xs _ (by decide))
      rw [Nat.xor_comm] at this
      exact congrArg (fun z => Ending.returned (.int .u32 z)) this
/-- four bytes of a number, the lowest first -/
def sl4 (c : Nat) : List UInt8 := [UInt8.ofNat (c % 256), UInt8.ofNat (c / 256 % 256), UInt8.ofNat (c / 65536 % 256), UInt8.ofNat (c / 16777216)]
/-- the seal of a list -/
def sl (xs : List UInt8) : List UInt8 := sl4 (crc xs)
theorem sl_length (xs : List UInt8) : (sl xs).length = 4 := rfl
theorem sl4_cells (c : Nat) (h : c < 4294967296) : #[Value.int .u8 ((c : Int) % 256), .int .u8 ((c : Int) / 256 % 256), .int .u8 ((c : Int) / 65536 % 256),   .int .u8 ((c : Int) / 16777216)] = (bvs (sl4 c)).toArray := by
  have e (x : Nat) (hx : x < 256) : Value.int .u8 (x : Int) = bv (UInt8.ofNat x) := by
    have := byte_of (x : Int) (by omega) (by omega)
    rwa [Int.toNat_natCast] at this
  have e0 := e (c % 256) (by omega)
  have e1 := e (c / 256 % 256) (by omega)
  have e2 := e (c / 65536 % 256) (by omega)
  have e3 := e (c / 16777216) (by omega)
  simp only [sl4, bvs, List.map_cons, List.map_nil, ← e0, ← e1, ← e2, ← e3]
  rfl
set_option maxHeartbeats 800000 in
theorem sealed_c {v : Value} {xs : List UInt8} {w : World} (h : RdB w v xs) (ht : TabOk w) (hb : xs.length ≤ 100000000000) :
    Calls Tryd.prog 19 #[v] w (GotB 5 w (xs ++ sl xs)) := by
  have hlt := crc_lt xs
  obtain ⟨A, c, rfl, hc⟩ := h.form
  go_enter Tryd.func19, Tryd.ntmps19
  go_wp2_with fail
  refine (crc_c h ht (by omega)).mono ?_
  rintro e w1 ⟨rfl, rfl⟩
  have hz := sl4_cells (crc xs) hlt
  have hsl : sl xs = sl4 (crc xs) := rfl
  generalize crc xs = z at *
  have HS := Lib.hid hsl
  have HZ := Lib.hid hz
  clear hsl hz
  go_wp2_with fail
  have o := OwB.lit w 5 (sl4 z) _ HZ.out (by simp [sl4])
  have hl4 : (sl4 z).length = 4 := rfl
  rw [hl4] at o
  refine (concat_c (u := .slice A xs.length c) (v := .slice (some ⟨w.heap.size, 0, none⟩) 4 4) (xs := xs) (ys := sl4 z) ?_ ?_ ?_ ?_ (by omega)).mono ?_
  · go_simp
  · go_simp
  · exact h.keepN (((Kp.refl _ w).alloc _).alloc _)
  · exact o.readsB.keepN ((Kp.refl _ _).alloc _)
  clear o
  rintro e w1 ⟨v1, rfl, o1, k1⟩
  go_wp2
  go_ret
  rw [HS.out]
  refine got_of (o1.wide ?_) ((((Kp.refl _ w).alloc _).alloc _).thenN k1)
  intro k h0 h1
  simp only [alloc_size] at h1
  exact ⟨by omega, h0⟩
end Go.Proofs.YteokkpmndfekoaaDoor
