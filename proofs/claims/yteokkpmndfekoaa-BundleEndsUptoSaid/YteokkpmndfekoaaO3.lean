/- octet.AppendNumber and the document's digits. -/
import Derived.Test.YteokkpmndfekoaaO2
import Derived.Test.YteokkpmndfekoaaP1
namespace Go.Proofs.Yteokkpmndfekoaa
open Go Go.RowKit
set_option maxRecDepth 100000

/-- the loop of AppendNumber: m is what is left, a the place, t the digits that stand there -/
def NumRel (n g : Nat) (T : TypeId) (w : World) (nv av : Value) (wr : World) : Prop :=
  ∃ (m a : Nat) (t : List UInt8) (cur : Array Value), nv = .int .u64 m ∧ av = .int .i64 a ∧ wr.heap[g]? = some (.cells cur T (0, 0)) ∧ cur.size = 10 ∧ a + t.length = 10 ∧ (sdH m).length ≤ a ∧
    sdH m ++ t = sd n ∧ (∀ j b, t[j]? = some b → cur[a + j]? = some (bv b)) ∧ KpN w wr ∧ m ≤ n
theorem and127 (m : Nat) (h : m < 18446744073709551616) : bits .and .u64 (m : Int) 127 = ((m % 128 : Nat) : Int) := by
  have := u64_and_nat m 127 h (by omega)
  rw [nat_mask7] at this
  exact this
theorem or128 (m : Nat) (h : m < 128) : bits .or .u8 (m : Int) 128 = ((m + 128 : Nat) : Int) := by
  have := u8_or_nat m 128 (by omega) (by omega)
  rw [Nat.or_comm, nat_join 7 128 m (by decide) (by omega), Nat.add_comm] at this
  exact this
set_option maxHeartbeats 800000 in
theorem number_c {v : Value} {xs : List UInt8} {n : Nat} {w : World} (h : RdB w v xs) (hn : n < 18446744073709551616) (hb : xs.length ≤ 100000000000) :
    Calls Try.prog 42 #[v, .int .u64 (n : Int)] w (GotB 5 w (xs ++ sd n)) := by
  have hm := and127 n hn
  obtain ⟨A, c, rfl, hc⟩ := h.form
  go_enter Try.func42, Try.ntmps42
  go_wp2_with fail
  go_loopw [1, 6] (fun nv av wr => NumRel n w.heap.size 123 w nv av wr) (fun nv _ _ => (intOf nv).toNat)
  case atStart => exact ⟨n / 128, 9, [UInt8.ofNat (n % 128)], _, by go_num, rfl, heap_alloc_new w _, rfl, rfl, by have := sd_length n hn; simp [sd] at this; omega, rfl, fun j b hj => by
    rcases j with _ | j
    · simp only [List.getElem?_cons_zero, Option.some.injEq] at hj
      subst hj
      have := byte_of ((n : Int) % 128) (by omega) (by omega)
      rw [show ((n : Int) % 128).toNat = n % 128 by omega] at this
      rw [← this]
      rfl
    · simp at hj, (Kp.refl _ _).alloc _, Nat.div_le_self _ _⟩
  case round =>
    obtain ⟨m, a, t, cur, rfl, rfl, hB, hsz, hat, hsl, hsd, ht, hk, hmn⟩ := hrel
    have hgs : w.heap.size < wr.heap.size := (Array.getElem?_eq_some_iff.1 hB).1
    by_cases hm0 : 0 < m
    · have hlast := sdH_pos m hm0
      obtain ⟨b, rfl⟩ : ∃ b, a = b + 1 := ⟨a - 1, by rw [hlast] at hsl; simp at hsl; omega⟩
      have c1 : wr.cell? ⟨w.heap.size, b, none⟩ = some (cur[b]'(by omega)) := by rw [cell_of_row wr _ _ _ _ _ hB]; simp
      generalize cur[b]'(by omega) = old at c1
      have c2 : wr.frozen? ⟨w.heap.size, b, none⟩ = false := frozen_of_row wr _ _ _ _ hB
      have hm2 := and127 m (by omega)
      have hm3 : bits .or .u8 ((m : Int) % 128) 128 = (m : Int) % 128 + 128 := by have := or128 (m % 128) (by omega); simpa using this
      go_wp2
      go_roundw
      case rel =>
        refine ⟨m / 128, b, UInt8.ofNat (m % 128 + 128) :: t, _, by go_num, by go_num, heap_setCell_same wr _ _ _ _ _ hB, by simp; omega, by simp; omega, by rw [hlast] at hsl; simp at hsl; omega, by rw [← hsd, hlast, List.append_assoc]; rfl, fun j x hj => ?_, hk.setCell (.inr (Nat.le_refl _)) _, by omega⟩
        rcases j with _ | j
        · simp only [List.getElem?_cons_zero, Option.some.injEq] at hj
          subst hj
          have := byte_of ((m % 128 + 128 : Nat) : Int) (by omega) (by omega)
          rw [Int.toNat_natCast] at this
          rw [Nat.add_zero, Array.getElem?_setIfInBounds_self_of_lt (by omega), ← this]
          simp
        · have := ht j x (by simpa using hj)
          rw [Array.getElem?_setIfInBounds_ne (by omega), ← this]
          congr 1
          omega
      case measure => simp [intOf]; omega
    · obtain rfl : m = 0 := by omega
      rw [sdH_zero, List.nil_append] at hsd
      subst hsd
      have hrd : RdB wr (.slice (some ⟨w.heap.size, a, none⟩) (10 - a) (10 - a)) (sd n) := by
        have e1 : 10 - a = (sd n).length := by omega
        rw [e1]
        refine ⟨by rw [bvs_length]; omega, _, _, rfl, Nat.le_refl _, fun j u hu => ⟨_, rfl, ?_⟩⟩
        rw [bvs_get] at hu
        obtain ⟨b, hb1, rfl⟩ := Option.map_eq_some_iff.1 hu
        have e2 : (⟨w.heap.size, a, none⟩ : Addr).add j = ⟨w.heap.size, a + j, none⟩ := by unfold Addr.add; split <;> simp_all
        rw [e2, cell_of_row wr _ _ _ _ _ hB]
        exact ht j b hb1
      have ha : a ≤ 10 := by omega
      obtain ⟨i0, hi, hz, hs, hby⟩ := info_parts u8info
      have r2 := run_arr_l (P := Try.prog) wr Try.underlying123 hi hs w.heap.size 0 a (by have : 0 < (sd n).length := (by simp [sd]); omega)
      rw [Nat.zero_add] at r2
      clear hB ht hsz hsl hat hi hz hs hby
      go_wp2_with fail
      have hl2 := sd_length n hn
      refine (concat_c (u := .slice A xs.length c) (v := .slice (some ⟨w.heap.size, a, none⟩) (10 - a) (10 - a)) (xs := xs) (ys := sd n) ?_ ?_ ?_ ?_ (by omega)).mono ?_
      · go_simp
      · go_simp
      · exact (h.keepN hk).keepN ((Kp.refl _ _).alloc _)
      · exact hrd.keepN ((Kp.refl _ _).alloc _)
      rintro e w1 ⟨v1, rfl, o1, k1⟩
      go_wp2
      go_ret
      have hz := hk.size
      exact got_of (o1.wide (fun k hk2 hi => ⟨by have := hi.1; rw [alloc_size] at this; omega, hk2⟩)) ((hk.alloc _).thenN k1)

/-- the loop of the document's Digits -/
def DigRel (n : Nat) (w : World) (nv v : Value) (wr : World) : Prop :=
  ∃ (m : Nat) (t : List UInt8), nv = .int .u64 m ∧ sdH m ++ t = sd n ∧ m ≤ n ∧ OwB wr 5 (Iv w.heap.size wr.heap.size) v t ∧ KpN w wr
set_option maxHeartbeats 800000 in
theorem digits_c (n : Nat) (w : World) (hn : n < 18446744073709551616) :
    Calls Try.prog 67 #[.int .u64 (n : Int)] w (GotB 5 w (sd n)) := by
  go_enter Try.func67, Try.ntmps67
  go_wp2_with fail
  go_loopw [0, 3] (fun nv v wr => DigRel n w nv v wr) (fun nv _ _ => (intOf nv).toNat)
  case atStart =>
    refine ⟨n / 128, [UInt8.ofNat (n % 128)], by go_num, rfl, Nat.div_le_self _ _, ?_, (Kp.refl _ _).alloc _⟩
    have := OwC.one w 5 ((n : Int) % 128) (by omega) (by omega)
    rw [show ((n : Int) % 128).toNat = n % 128 by omega] at this
    exact this.wide (fun k hk h => ⟨h.1, hk⟩)
  case round =>
    obtain ⟨m, t, rfl, hsd, hmn, ho, hk⟩ := hrel
    have hl := sd_length n hn
    have hl2 : t.length ≤ 10 := by have := congrArg List.length hsd; simp at this; omega
    have hz := hk.size
    by_cases hm0 : 0 < m
    · have hlast := Lib.hid (sdH_pos m hm0)
      have HS := Lib.hid hsd
      clear hsd
      have hx := OwC.one wr 5 ((m : Int) % 128 + 128) (by omega) (by omega)
      rw [show ((m : Int) % 128 + 128).toNat = m % 128 + 128 by omega] at hx
      obtain ⟨v2, w2, r2, o2, k2, _⟩ := run_appB (P := Try.prog) (ty := 27) (wr.alloc (.cells #[.int .u8 ((m : Int) % 128 + 128)] 5)) Try.underlying27 u8info hx (ho.readsB.keepN ((Kp.refl _ _).alloc _)) (by simp; omega)
      have hz2 := k2.size
      have ha := alloc_size wr (.cells #[.int .u8 ((m : Int) % 128 + 128)] 5)
      have HF := Lib.hid hx.fit
      have HA := Lib.hid ha
      clear hx ha
      go_wp2_with (refine app_op r2 rfl rfl ?_)
      go_roundw
      case rel =>
        have ha := HA.out
        exact ⟨m / 128, _, by go_num, by rw [← HS.out, hlast.out, List.append_assoc], by omega, o2.wide (fun k hk h => ⟨by rcases h with h | h <;> have := h.1 <;> omega, hk⟩), (hk.alloc _).fresh k2 (fun i hi => by have := (HF.out i hi).1; omega)⟩
      case measure => simp [intOf]; omega
    · obtain rfl : m = 0 := by omega
      rw [sdH_zero, List.nil_append] at hsd
      subst hsd
      go_wp2
      go_ret
      exact got_of ho hk
set_option maxHeartbeats 400000 in
theorem refNumber_c {v : Value} {xs : List UInt8} {n : Nat} {w : World} (h : RdB w v xs) (hn : n < 18446744073709551616) (hb : xs.length ≤ 100000000000) :
    Calls Try.prog 97 #[v, .int .u64 (n : Int)] w (GotB 5 w (xs ++ sd n)) := by
  obtain ⟨v1, w1, r1, o1, k1⟩ := run_appB_nil (P := Try.prog) (ty := 27) w Try.underlying27 u8info h (by omega)
  have hl := sd_length n hn
  obtain ⟨A, c, rfl, hc⟩ := h.form
  go_enter Try.func97, Try.ntmps97
  go_wp2_with (refine app_op r1 rfl rfl ?_)
  refine (digits_c n w1 hn).mono ?_
  rintro e w2 ⟨v2, rfl, o2, k2⟩
  obtain ⟨v3, w3, r3, o3, k3, _⟩ := run_appB (P := Try.prog) (ty := 27) w2 Try.underlying27 u8info (o1.keepN k2) o2.readsB (by omega)
  go_wp2_with (refine app_op r3 rfl rfl ?_)
  go_ret
  have hz1 := k1.size
  have hz2 := k2.size
  have hz3 := k3.size
  exact got_of (o3.wide (fun k hk h => ⟨by rcases h with h | h <;> have := h.1 <;> omega, hk⟩)) ((k1.thenN k2).fresh k3 (fun i hi => (o1.fit i hi).1))
end Go.Proofs.Yteokkpmndfekoaa
