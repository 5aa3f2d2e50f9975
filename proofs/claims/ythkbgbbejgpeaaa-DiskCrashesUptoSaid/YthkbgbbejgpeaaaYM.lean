/- The statements against the document's disk: asks. -/
import Derived.Test.YthkbgbbejgpeaaaYK
namespace Go.Proofs.Ythkbgbbejgpeaaa
open Go Go.RowKit
set_option maxRecDepth 100000

theorem imageD_len (d : Dk) (hl : ∀ i, i < d.n → (d.du i).length = 128) : (imageD d).length = d.n * 129 := head_len d hl d.n (Nat.le_refl _)
def TrueP (w : World) (e : Ending) (w' : World) : Prop := e = .returned (.bool true) ∧ KpN w w'
set_option maxHeartbeats 6400000 in
theorem asks_c {w0 w : World} {F G : Nat → Prop} {g r k : Nat} {d : Dk} (h : TwoM w0 w F G g r k d d) (hk : k ≤ 900000000) {ok oi sz : Int} {b : Value} {rA cA : Option Addr} {RN rc CN cc : Nat} (hi : I64 oi) :
    Calls Try.prog 62 #[.agg #[.int .i64 ok, .int .i64 oi, b, .int .i64 sz, .slice rA RN rc, .slice cA CN cc], .pointer (some ⟨g, 0, none⟩), .pointer (some ⟨r, 0, none⟩)] w (TrueP w) := by
  have kb := (Kp.refl (fun _ => False) w).alloc (.cells #[.int .i64 ok, .int .i64 oi, b, .int .i64 sz, .slice rA RN rc, .slice cA CN cc] 100)
  have hbx : ∀ j v, #[Value.int .i64 ok, .int .i64 oi, b, .int .i64 sz, .slice rA RN rc, .slice cA CN cc][j]? = some v → (w.alloc (.cells #[.int .i64 ok, .int .i64 oi, b, .int .i64 sz, .slice rA RN rc, .slice cA CN cc] 100)).cell? ⟨w.heap.size, j, none⟩ = some v := fun j v hj => by
    rw [cell_of_row _ _ _ _ _ _ (heap_alloc_new _ _)]
    exact hj
  have hzb : w.heap.size < (w.alloc (.cells #[.int .i64 ok, .int .i64 oi, b, .int .i64 sz, .slice rA RN rc, .slice cA CN cc] 100)).heap.size := by simp
  have b0 := hbx 0 _ rfl
  have b1 := hbx 1 _ rfl
  have H1 := Lib.hid (h.keepN kb)
  have hn2 := h.dk.n2
  have hcnt := h.dk.cnt
  have hlen := imageD_len d h.dk.len
  have HLEN := Lib.hid hlen
  have HCNT := Lib.hid (fun i hi => Nat.le_trans (hcnt i hi) (show k ≤ 1000000000 by omega))
  obtain ⟨w1, hw1⟩ : ∃ w1, w.alloc (.cells #[.int .i64 ok, .int .i64 oi, b, .int .i64 sz, .slice rA RN rc, .slice cA CN cc] 100) = w1 := ⟨_, rfl⟩
  rw [hw1] at kb hzb b1 H1
  have HW1 := Lib.hid hw1
  clear hbx h hlen hcnt hw1
  go_enter Try.func62, Try.ntmps62
  by_cases k0 : ok = 0
  · subst k0
    go_wp2_with fail
    rw [HW1.out]
    refine (read_x H1.out.dk hi).mono ?_
    rintro e w2 ⟨u, rfl, o2, k2⟩
    have b12 : w2.cell? ⟨w.heap.size, 1, none⟩ = some (.int .i64 oi) := by rw [k2.cell hzb (fun x => x)]; exact b1
    have hl2 : (readD d oi).1.length ≤ 1000000 := by
      unfold readD
      split
      · simp
      · split
        · simp
        · rename_i hB _
          have hB : hasB d oi = true := by simpa using hB
          have hbd : 0 ≤ oi ∧ oi < (d.n : Int) := by simpa [hasB] using hB
          split
          · rename_i s hs
            have := H1.out.dk.clen oi.toNat (by omega) s (List.mem_of_getLast? hs)
            simp only
            omega
          · split
            · simp
            · have := H1.out.dk.len oi.toNat (by omega)
              simp only
              omega
    have HO := Lib.hid o2
    have HL2 := Lib.hid hl2
    clear o2 hl2
    go_wp2_with fail
    obtain ⟨rb, tv, vv, vs, hr⟩ := (H1.out.keepN k2).rf
    refine (read_r hr hi).mono ?_
    rintro e w3 ⟨u3, rfl, o3, k3⟩
    have HO3 := Lib.hid o3
    clear hr o3
    obtain ⟨RD, hRD⟩ : ∃ RD, readD d oi = RD := ⟨_, rfl⟩
    rw [hRD] at HO HL2 HO3 ⊢
    obtain ⟨xs, er⟩ := RD
    dsimp only at HO HL2 HO3 ⊢
    clear hRD
    go_wp2_with fail
    refine (Bytes_c (HO.out.readsB.keepN k3) HO3.out.readsB (by have := HL2.out; omega)).mono ?_
    rintro e w4 ⟨rfl, k4⟩
    rw [show decide (xs = xs) = true by simp]
    go_wp2_with fail
    go_ret
    exact ⟨rfl, ((kb.thenN k2).thenN k3).thenN k4⟩
  · by_cases k5 : ok = 5
    · subst k5
      go_wp2_with fail
      rw [HW1.out]
      refine (image_x H1.out.dk).mono ?_
      rintro e w2 ⟨u, rfl, o2, k2⟩
      have HO := Lib.hid o2
      clear o2
      go_wp2_with fail
      obtain ⟨rb, tv, vv, vs, hr⟩ := (H1.out.keepN k2).rf
      refine (image_r hr).mono ?_
      rintro e w3 ⟨u3, rfl, o3, k3⟩
      have HO3 := Lib.hid o3
      clear hr o3
      go_wp2_with fail
      refine (Bytes_c (HO.out.readsB.keepN k3) HO3.out.readsB (by rw [HLEN.out]; omega)).mono ?_
      rintro e w4 ⟨rfl, k4⟩
      rw [show decide (imageD d = imageD d) = true by simp]
      go_wp2_with fail
      go_ret
      exact ⟨rfl, ((kb.thenN k2).thenN k3).thenN k4⟩
    · by_cases k6 : ok = 6
      · subst k6
        go_wp2_with fail
        rw [HW1.out]
        refine (dirty_y H1.out.dk (by omega)).mono ?_
        rintro e w2 ⟨x2, y2, rfl, ox2, oy2, k2⟩
        have HX := Lib.hid (And.intro ox2 oy2)
        clear ox2 oy2
        go_wp2_with fail
        obtain ⟨rb, tv, vv, vs, hr⟩ := (H1.out.keepN k2).rf
        refine (dirty_r hr HCNT.out).mono ?_
        rintro e w3 ⟨x3, y3, rfl, ox3, oy3, k3⟩
        have HY := Lib.hid (And.intro ox3 oy3)
        clear hr ox3 oy3
        go_wp2_with fail
        refine (Ints_c (HX.out.1.rd.keepN k3) HY.out.1.rd (by have := dirtyZ_len d; omega)).mono ?_
        rintro e w4 ⟨rfl, k4⟩
        rw [show decide (dirtyZ d = dirtyZ d) = true by simp]
        go_wp2_with fail
        refine (Ints_c ((HX.out.2.rd.keepN k3).keepN k4) (HY.out.2.rd.keepN k4) (by have := versZ_len d; omega)).mono ?_
        rintro e w5 ⟨rfl, k5'⟩
        rw [show decide (versZ d = versZ d) = true by simp]
        go_wp2_with fail
        go_ret
        exact ⟨rfl, (((kb.thenN k2).thenN k3).thenN k4).thenN k5'⟩
      · by_cases k7 : ok = 7
        · subst k7
          go_wp2_with fail
          rw [HW1.out]
          refine (sectors_x H1.out.dk).mono ?_
          rintro e w2 ⟨rfl, rfl⟩
          go_wp2_with fail
          obtain ⟨rb, tv, vv, vs, hr⟩ := H1.out.rf
          have HRR := Lib.hid hr
          clear hr
          refine (sectors_r HRR.out).mono ?_
          rintro e w3 ⟨rfl, rfl⟩
          go_wp2_with fail
          refine (down_x H1.out.dk).mono ?_
          rintro e w4 ⟨rfl, rfl⟩
          go_wp2_with fail
          refine (down_r HRR.out).mono ?_
          rintro e w5 ⟨rfl, rfl⟩
          go_wp2_with fail
          go_ret
          exact ⟨by simp, kb⟩
        · have e0 : (ok == 0) = false := by simpa using k0
          have e5 : (ok == 5) = false := by simpa using k5
          have e6 : (ok == 6) = false := by simpa using k6
          have e7 : (ok == 7) = false := by simpa using k7
          go_wp2_with fail
          go_ret
          rw [HW1.out]
          exact ⟨rfl, kb⟩
end Go.Proofs.Ythkbgbbejgpeaaa
