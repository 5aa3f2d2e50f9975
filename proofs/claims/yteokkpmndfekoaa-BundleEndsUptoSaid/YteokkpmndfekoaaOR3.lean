/- the document's Reader. -/
import Derived.Test.YteokkpmndfekoaaON2
import Derived.Test.YteokkpmndfekoaaOR2
import Derived.Test.YteokkpmndfekoaaP8
namespace Go.Proofs.Yteokkpmndfekoaa
open Go Go.RowKit
set_option maxRecDepth 100000

/-- a slice from place a on, at the operation -/
theorem run_lo {P : Program} {T e : TypeId} (hT : P.underlying T = some (.slice e)) {z : Value} {b : Nat} (hinfo : (P.info? e).map (fun i => (i.zero, i.size, i.bytes)) = some (some z, 1, b)) (A : Option Addr) (n c a : Nat) (h : a ≤ n) (W : World) :
    (Instr.sliceAt T (.slice A n c) (some (.int .i64 (a : Int))) none none).run P W = .ok (.slice (loA A c a) (n - a) (c - a)) W := by
  obtain ⟨i0, hi, hz, hs, hby⟩ := info_parts hinfo
  have h3 : (a : Int) ≤ (n : Int) := by omega
  simp [Instr.sliceAt, Instr.slice, run_underlying hT, Instr.sliceBounds, run_sliceBound, sizeOf, typeInfo, hi, hs, h3, loA]
theorem run_lohi {P : Program} {T e : TypeId} (hT : P.underlying T = some (.slice e)) {z : Value} {b : Nat} (hinfo : (P.info? e).map (fun i => (i.zero, i.size, i.bytes)) = some (some z, 1, b)) (A : Option Addr) (n c a k : Nat) (h : a ≤ k) (hk : k ≤ c) (W : World) :
    (Instr.sliceAt T (.slice A n c) (some (.int .i64 (a : Int))) (some (.int .i64 (k : Int))) none).run P W = .ok (.slice (loA A c a) (k - a) (c - a)) W := by
  obtain ⟨i0, hi, hz, hs, hby⟩ := info_parts hinfo
  have h3 : (a : Int) ≤ (k : Int) := by omega
  have h4 : (k : Int) ≤ (c : Int) := by omega
  have h5 : (0 : Int) ≤ (k : Int) := by omega
  simp [Instr.sliceAt, Instr.slice, run_underlying hT, Instr.sliceBounds, run_sliceBound, sizeOf, typeInfo, hi, hs, h3, h4, h5, loA]
theorem loA_own {A : Option Addr} {n c a m d : Nat} {k : Nat} (h : (Value.slice (loA A c a) m d).ownBlock = some k) : (Value.slice A n c).ownBlock = some k := by
  unfold loA at h
  split at h
  · rcases A with _ | ad
    · simp [Value.ownBlock] at h
    · simpa [Value.ownBlock] using h
  · rcases A with _ | ad
    · simp [Value.ownBlock] at h
    · simpa [Value.ownBlock, add_block] using h
/-- the two cells of the document's Reader in block g: what is left, the fault -/
structure RefC (w : World) (F : Nat → Prop) (g : Nat) (ys : List UInt8) (f : Int) : Prop where
  fit : F g
  lt : g < w.heap.size
  fz : ∀ j, w.frozen? ⟨g, j, none⟩ = false
  c1 : w.cell? ⟨g, 1, none⟩ = some (.int .i64 f)
  small : ys.length ≤ 100000000000
  c0 : ∃ v, w.cell? ⟨g, 0, none⟩ = some v ∧ RdB w v ys ∧ ∀ k, v.ownBlock = some k → F k ∧ k ≠ g
theorem RefC.keep {w w' : World} {F S : Nat → Prop} {g : Nat} {f : Int} {ys : List UInt8} (h : RefC w F g ys f) (k : Kp S w w') (hs : ∀ i, F i → ¬ S i) : RefC w' F g ys f := by
  obtain ⟨v, hc, hr, hf⟩ := h.c0
  exact ⟨h.fit, Nat.lt_of_lt_of_le h.lt k.size, fun j => by rw [k.frozen h.lt (hs _ h.fit)]; exact h.fz j, by rw [k.cell h.lt (hs _ h.fit)]; exact h.c1, h.small, v, by rw [k.cell h.lt (hs _ h.fit)]; exact hc, hr.keep k (fun i hi => hs i (hf i hi).1), hf⟩
theorem RefC.keepN {w w' : World} {F : Nat → Prop} {g : Nat} {f : Int} {ys : List UInt8} (h : RefC w F g ys f) (k : KpN w w') : RefC w' F g ys f := h.keep k (fun _ _ x => x)
theorem RefC.setBad {w : World} {F : Nat → Prop} {g : Nat} {f : Int} {ys : List UInt8} (h : RefC w F g ys f) (e : Int) : RefC (w.setCell ⟨g, 1, none⟩ (.int .i64 e)) F g ys e := by
  obtain ⟨v, hc, hr, hf⟩ := h.c0
  exact ⟨h.fit, by simpa using h.lt, fun j => by simpa using h.fz j, World.cell?_setCell_same _ _ _ h.c1, h.small, v, by rw [World.cell?_setCell_other _ _ _ _ (off_ne (by omega))]; exact hc, hr.keep ((Kp.refl (fun i => i = g) w).setCell (p := ⟨g, 1, none⟩) (.inl rfl) _) (fun i hi => (hf i hi).2), hf⟩
theorem RefC.setRest {w : World} {F : Nat → Prop} {g : Nat} {f : Int} {ys zs : List UInt8} {u : Value} (h : RefC w F g ys f) (hu : RdB w u zs) (hz : zs.length ≤ ys.length) (hf : ∀ k, u.ownBlock = some k → F k ∧ k ≠ g) : RefC (w.setCell ⟨g, 0, none⟩ u) F g zs f := by
  obtain ⟨v, hc, hr, _⟩ := h.c0
  exact ⟨h.fit, by simpa using h.lt, fun j => by simpa using h.fz j, by rw [World.cell?_setCell_other _ _ _ _ (off_ne (by omega))]; exact h.c1, Nat.le_trans hz h.small, u, World.cell?_setCell_same _ _ _ hc, hu.keep ((Kp.refl (fun i => i = g) w).setCell (p := ⟨g, 0, none⟩) (.inl rfl) _) (fun i hi => (hf i hi).2), hf⟩
theorem rfFail_c {w : World} {F : Nat → Prop} {g : Nat} {f e : Int} {ys : List UInt8} (hR : RefC w F g ys f) :
    Calls Try.prog 58 #[.pointer (some ⟨g, 0, none⟩), .int .i64 e] w fun r w' => (∃ u, r = .returned u) ∧ RefC w' F g ys (if f = 0 then e else f) ∧ Kp F w w' := by
  have c1 := hR.c1
  have f1 := hR.fz 1
  go_enter Try.func58, Try.ntmps58
  by_cases hf : f = 0
  · subst hf
    have hw := hR.setBad e
    have k := kp1_set (w := w) hR.fit 1 (.int .i64 e)
    go_wp2
    go_end0
    exact ⟨⟨_, rfl⟩, hw, k⟩
  · have hfi : ¬ f = 0 := hf
    go_wp2
    go_end0
    exact ⟨⟨_, rfl⟩, hR, Kp.refl _ _⟩
theorem rfNew_c {w : World} {v : Value} {xs : List UInt8} (h : RdB w v xs) (hb : xs.length ≤ 100000000000) :
    Calls Try.prog 52 #[v] w fun e w' => ∃ g, e = .returned (.pointer (some ⟨g, 0, none⟩)) ∧ RefC w' (Iv w.heap.size w'.heap.size) g xs 0 ∧ KpN w w' := by
  obtain ⟨A, c, rfl, hc⟩ := h.form
  obtain ⟨v1, w1, r1, o1, k1⟩ := run_appB_nil (P := Try.prog) (ty := 27) w Try.underlying27 u8info h (by omega)
  have hz := k1.size
  obtain ⟨B, d, rfl, hd⟩ := o1.readsB.form
  go_enter Try.func52, Try.ntmps52
  go_wp2_with (refine app_op r1 rfl rfl ?_)
  go_ret
  have k2 := (Kp.refl (fun _ => False) w1).alloc (.cells #[.slice B xs.length d, .int .i64 0] 108)
  refine ⟨w1.heap.size, rfl, ⟨⟨by omega, by simp⟩, by simp, fun j => by simp, by simp, hb, _, by simp, (o1.keepN k2).readsB, fun k hk => ⟨⟨(o1.fit k hk).1, by have := (o1.fit k hk).2; simp; omega⟩, by have := (o1.fit k hk).2; omega⟩⟩, k1.thenN k2⟩
set_option maxHeartbeats 1600000 in
theorem rfNumber_c {w : World} {F : Nat → Prop} {g a most : Nat} {f : Int} {xs : List UInt8} (h : RefC w F g (xs.drop a) f) (ha : a ≤ xs.length) (_hm : most < 18446744073709551616) :
    Calls Try.prog 55 #[.pointer (some ⟨g, 0, none⟩), .int .u64 (most : Int)] w fun e w' => e = .returned (.int .u64 ((rNum xs a f most).1 : Int)) ∧ RefC w' F g (xs.drop (rNum xs a f most).2.1) (rNum xs a f most).2.2 ∧ Kp F w w' := by
  have c1 := h.c1
  have f0 := h.fz 0
  have f1 := h.fz 1
  have hsm := h.small
  obtain ⟨v, c0, hr, hF⟩ := h.c0
  go_enter Try.func55, Try.ntmps55
  by_cases hf : f = 0
  · subst hf
    obtain ⟨A, c, rfl, hc⟩ := hr.form
    obtain ⟨n, k, e0, hN⟩ : ∃ n k e0, numS (xs.drop a) = (n, k, e0) := ⟨_, _, _, rfl⟩
    have hk : k ≤ (xs.drop a).length := by have := numS_le (xs.drop a); rw [hN] at this; exact this
    have hn64 : n < 18446744073709551616 := by have := numS_lt (xs.drop a); rw [hN] at this; exact this
    have hR : rNum xs a 0 most = if e0 ≠ 0 then (0, a, (e0 : Int)) else if most < n then (0, a, 12) else (n, a + k, 0) := by
      rw [rNum, hN]
      simp
    have hC := refNum_c hr (by omega)
    rw [hN, num3] at hC
    simp only at hC
    have hlo := hr.lo k hk
    rw [List.drop_drop] at hlo
    have hsl := run_lo (P := Try.prog) Try.underlying27 u8info A (xs.drop a).length c k hk
    have HR := Lib.hid hR
    clear hR hN
    generalize (xs.drop a).length = l at *
    go_wp2_with fail
    refine hC.mono ?_
    rintro e w2 ⟨rfl, rfl⟩
    clear hC
    by_cases he : e0 = 0
    · subst he
      by_cases hmn : most < n
      · have hR := HR.out
        rw [if_neg (by simp), if_pos hmn] at hR
        have HR2 := Lib.hid hR
        have hmi : (most : Int) < (n : Int) := by omega
        clear hR HR hsl
        go_wp2_with fail
        refine (rfFail_c (e := 12) h).mono ?_
        rintro e w2 ⟨⟨u, rfl⟩, h2, k2⟩
        go_wp2
        go_ret
        exact ⟨by rw [HR2.out]; rfl, by rw [HR2.out]; exact h2, k2⟩
      · have hR := HR.out
        rw [if_neg (by simp), if_neg hmn] at hR
        have HR2 := Lib.hid hR
        have hmi : ¬ (most : Int) < (n : Int) := by omega
        have hw := h.setRest hlo (by simp; omega) (fun i hi => hF i (loA_own hi))
        have kw := kp1_set (w := w) h.fit 0 (.slice (loA A c k) (l - k) (c - k))
        clear hR HR hlo
        go_wp2
        go_ret
        exact ⟨by rw [HR2.out]; rfl, by rw [HR2.out]; exact hw, kw⟩
    · have hR := HR.out
      rw [if_pos he] at hR
      have HR2 := Lib.hid hR
      have hei : ¬ (e0 : Int) = 0 := by omega
      clear hR HR hsl
      go_wp2_with fail
      refine (rfFail_c (e := e0) h).mono ?_
      rintro e w2 ⟨⟨u, rfl⟩, h2, k2⟩
      go_wp2
      go_ret
      exact ⟨by rw [HR2.out]; rfl, by rw [HR2.out]; exact h2, k2⟩
  · have hr : rNum xs a f most = (0, a, f) := by rw [rNum, if_pos hf]
    have hfi : ¬ f = 0 := hf
    rw [hr]
    go_wp2
    go_ret
    exact ⟨rfl, h, Kp.refl _ _⟩

set_option maxHeartbeats 1600000 in
theorem rfTake_c {w : World} {F : Nat → Prop} {g a : Nat} {f n : Int} {xs : List UInt8} (h : RefC w F g (xs.drop a) f) (hn : -9223372036854775808 ≤ n ∧ n ≤ 9223372036854775807) :
    Calls Try.prog 53 #[.pointer (some ⟨g, 0, none⟩), .int .i64 n] w fun e w' => ∃ u, e = .returned u ∧ OwB w' 5 (Iv w.heap.size w'.heap.size) u (rTake xs a f n).1 ∧ RefC w' F g (xs.drop (rTake xs a f n).2.1) (rTake xs a f n).2.2 ∧ Kp F w w' := by
  have c1 := h.c1
  have f0 := h.fz 0
  have hsm := h.small
  obtain ⟨v, c0, hr, hF⟩ := h.c0
  obtain ⟨A, c, rfl, hc⟩ := hr.form
  go_enter Try.func53, Try.ntmps53
  by_cases hf : f = 0
  · subst hf
    by_cases h0 : n < 0
    · have hr : rTake xs a 0 n = ([], a, 1) := by simp [rTake, h0]
      have HR := Lib.hid hr
      clear hr
      go_wp2_with fail
      refine (rfFail_c (e := 1) h).mono ?_
      rintro e w2 ⟨⟨u, rfl⟩, h2, k2⟩
      go_wp2
      go_ret
      exact ⟨.slice none 0 0, rfl, by rw [HR.out]; exact OwB.nil _ _ _, by rw [HR.out]; exact h2, k2⟩
    · obtain ⟨m, rfl⟩ := Int.eq_ofNat_of_zero_le (show 0 ≤ n by omega)
      have hT : rTake xs a 0 (m : Int) = if (xs.drop a).length < m then ([], a, 10) else ((xs.drop a).take m, a + m, 0) := by
        have h3 : (((xs.length - a : Nat) : Int) < (m : Int)) ↔ (xs.drop a).length < m := by rw [List.length_drop]; omega
        rw [rTake, if_neg (by simp), if_neg h0]
        simp only [h3, Int.toNat_natCast]
      have HT := Lib.hid hT
      clear hT
      obtain ⟨l, hl⟩ : ∃ l, (xs.drop a).length = l := ⟨_, rfl⟩
      have HL := Lib.hid hl
      rw [hl] at hr c0 hc hsm
      by_cases hlm : l < m
      · have hR := HT.out
        rw [hl, if_pos hlm] at hR
        have HR := Lib.hid hR
        have hli : (l : Int) < (m : Int) := by omega
        clear hR hl
        go_wp2_with fail
        refine (rfFail_c (e := 10) h).mono ?_
        rintro e w2 ⟨⟨u, rfl⟩, h2, k2⟩
        go_wp2
        go_ret
        exact ⟨.slice none 0 0, rfl, by rw [HR.out]; exact OwB.nil _ _ _, by rw [HR.out]; exact h2, k2⟩
      · have hR := HT.out
        rw [hl, if_neg hlm] at hR
        have HR := Lib.hid hR
        have hli : ¬ (l : Int) < (m : Int) := by omega
        have hml : m ≤ l := by omega
        have hmi : (m : Int) ≤ (l : Int) := by omega
        have hmc : (m : Int) ≤ (c : Int) := by omega
        have rt := hr.take m hml
        have hlo := hr.lo m hml
        rw [List.drop_drop] at hlo
        obtain ⟨v1, w1, r1, o1, k1⟩ := run_appB_nil (P := Try.prog) (ty := 27) w Try.underlying27 u8info rt (by simp; omega)
        have h1 := h.keepN k1
        have c01 : w1.cell? ⟨g, 0, none⟩ = some (.slice A l c) := by rw [k1.cell h.lt (fun x => x)]; exact c0
        have f01 := h1.fz 0
        have hw := h1.setRest (hlo.keepN k1) (by simp; omega) (fun i hi => hF i (loA_own hi))
        have kw := Kp.after k1 (kp1_set (w := w1) h.fit 0 (.slice (loA A c m) (l - m) (c - m)))
        have ow := o1.keep (S := fun i => i = g) (kp1_set (w := w1) (F := fun i => i = g) rfl 0 (.slice (loA A c m) (l - m) (c - m))) (fun i hi => by have := hi.1; have := h.lt; omega)
        have hsl := run_lo (P := Try.prog) Try.underlying27 u8info A l c m hml
        clear hR hl hlo rt
        go_wp2_with (refine app_op r1 rfl rfl ?_)
        go_ret
        exact ⟨v1, rfl, by rw [HR.out]; exact ow.wide (fun k _ hk => ⟨hk.1, by have := hk.2; simpa using this⟩), by rw [HR.out]; exact hw, kw⟩
  · have hr : rTake xs a f n = ([], a, f) := by simp [rTake, hf]
    have HR := Lib.hid hr
    have hfi : ¬ f = 0 := hf
    clear hr
    go_wp2
    go_ret
    exact ⟨.slice none 0 0, rfl, by rw [HR.out]; exact OwB.nil _ _ _, by rw [HR.out]; exact h, Kp.refl _ _⟩
theorem rBytes_of (xs : List UInt8) (a m n k e0 : Nat) (hN : numS (xs.drop a) = (n, k, e0)) :
    rBytes xs a 0 (m : Int) = if e0 ≠ 0 then ([], a, (e0 : Int)) else if m < n then ([], a, 12) else if (xs.drop a).length - k < n then ([], a, 10) else ((xs.drop (a + k)).take n, a + k + n, 0) := by
  by_cases he : e0 = 0
  · subst he
    rw [if_neg (by simp)]
    by_cases hmn : m < n
    · have hr : rNum xs a 0 m = (0, a, 12) := by rw [rNum, hN]; simp [hmn]
      rw [rBytes, if_neg (by simp), if_neg (by omega), Int.toNat_natCast, hr, if_pos hmn]
      simp [rTake]
    · have hr : rNum xs a 0 m = (n, a + k, 0) := by rw [rNum, hN]; simp [hmn]
      have ht : rTake xs (a + k) 0 (n : Int) = if (xs.drop a).length - k < n then ([], a + k, 10) else ((xs.drop (a + k)).take n, a + k + n, 0) := by
        have h3 : (((xs.length - (a + k) : Nat) : Int) < (n : Int)) ↔ (xs.drop a).length - k < n := by rw [List.length_drop]; omega
        rw [rTake, if_neg (by simp), if_neg (by omega)]
        simp only [h3, Int.toNat_natCast]
      rw [rBytes, if_neg (by simp), if_neg (by omega), Int.toNat_natCast, hr, if_neg hmn]
      simp only [ht]
      split
      · simp
      · simp
  · have h0 : (e0 : Int) ≠ 0 := by omega
    have hr : rNum xs a 0 m = (0, a, (e0 : Int)) := by rw [rNum, hN]; simp [he]
    rw [rBytes, if_neg (by simp), if_neg (by omega), Int.toNat_natCast, hr, if_pos he]
    simp [rTake, he]
set_option maxHeartbeats 3200000 in
theorem rfBytes_c {w : World} {F : Nat → Prop} {g a : Nat} {f most : Int} {xs : List UInt8} (h : RefC w F g (xs.drop a) f) (hn : -9223372036854775808 ≤ most ∧ most ≤ 9223372036854775807) :
    Calls Try.prog 57 #[.pointer (some ⟨g, 0, none⟩), .int .i64 most] w fun e w' => ∃ u, e = .returned u ∧ OwB w' 5 (Iv w.heap.size w'.heap.size) u (rBytes xs a f most).1 ∧ RefC w' F g (xs.drop (rBytes xs a f most).2.1) (rBytes xs a f most).2.2 ∧ Kp F w w' := by
  have c1 := h.c1
  have f0 := h.fz 0
  have hsm := h.small
  obtain ⟨v, c0, hr, hF⟩ := h.c0
  obtain ⟨A, c, rfl, hc⟩ := hr.form
  go_enter Try.func57, Try.ntmps57
  by_cases hf : f = 0
  · subst hf
    by_cases h0 : most < 0
    · have hr : rBytes xs a 0 most = ([], a, 1) := by simp [rBytes, h0]
      have HR := Lib.hid hr
      clear hr
      go_wp2_with fail
      refine (rfFail_c (e := 1) h).mono ?_
      rintro e w2 ⟨⟨u, rfl⟩, h2, k2⟩
      go_wp2
      go_ret
      exact ⟨.slice none 0 0, rfl, by rw [HR.out]; exact OwB.nil _ _ _, by rw [HR.out]; exact h2, k2⟩
    · obtain ⟨m, rfl⟩ := Int.eq_ofNat_of_zero_le (show 0 ≤ most by omega)
      obtain ⟨n, k, e0, hN⟩ : ∃ n k e0, numS (xs.drop a) = (n, k, e0) := ⟨_, _, _, rfl⟩
      have hk : k ≤ (xs.drop a).length := by have := numS_le (xs.drop a); rw [hN] at this; exact this
      have hn64 : n < 18446744073709551616 := by have := numS_lt (xs.drop a); rw [hN] at this; exact this
      have hT := rBytes_of xs a m n k e0 hN
      have hC := refNum_c hr (by omega)
      rw [hN, num3] at hC
      simp only at hC
      have HT := Lib.hid hT
      clear hT hN
      obtain ⟨l, hl⟩ : ∃ l, (xs.drop a).length = l := ⟨_, rfl⟩
      have HL := Lib.hid hl
      rw [hl] at hr c0 hc hsm hk hC
      have es : (l : Int) - (k : Int) = ((l - k : Nat) : Int) := by omega
      clear hl
      go_wp2_with fail
      refine hC.mono ?_
      rintro e w2 ⟨rfl, rfl⟩
      clear hC
      by_cases he : e0 = 0
      · subst he
        by_cases hmn : m < n
        · have hR := HT.out
          rw [if_neg (by simp), if_pos hmn] at hR
          have HR := Lib.hid hR
          have hmi : (m : Int) < (n : Int) := by omega
          clear hR HT es
          go_wp2_with fail
          refine (rfFail_c (e := 12) h).mono ?_
          rintro e w2 ⟨⟨u, rfl⟩, h2, k2⟩
          go_wp2
          go_ret
          exact ⟨.slice none 0 0, rfl, by rw [HR.out]; exact OwB.nil _ _ _, by rw [HR.out]; exact h2, k2⟩
        · have hmi : ¬ (m : Int) < (n : Int) := by omega
          have hni : (n : Int) ≤ 9223372036854775807 := by omega
          by_cases hlk : l - k < n
          · have hR := HT.out
            rw [if_neg (by simp), if_neg hmn, HL.out, if_pos hlk] at hR
            have HR := Lib.hid hR
            obtain ⟨lk, hlk'⟩ : ∃ lk, l - k = lk := ⟨_, rfl⟩
            rw [hlk'] at es hlk
            have hlki : (lk : Int) < (n : Int) := by omega
            have hlkm : (lk : Int) ≤ 9223372036854775807 := by omega
            clear hR HT hlk'
            go_wp2_with fail
            refine (rfFail_c (e := 10) h).mono ?_
            rintro e w2 ⟨⟨u, rfl⟩, h2, k2⟩
            go_wp2
            go_ret
            exact ⟨.slice none 0 0, rfl, by rw [HR.out]; exact OwB.nil _ _ _, by rw [HR.out]; exact h2, k2⟩
          · have hR := HT.out
            rw [if_neg (by simp), if_neg hmn, HL.out, if_neg hlk] at hR
            have HR := Lib.hid hR
            obtain ⟨lk, hlk'⟩ : ∃ lk, l - k = lk := ⟨_, rfl⟩
            rw [hlk'] at es hlk
            have hlki : ¬ (lk : Int) < (n : Int) := by omega
            have hlkm : (lk : Int) ≤ 9223372036854775807 := by omega
            have ek : (k : Int) + (n : Int) = ((k + n : Nat) : Int) := by omega
            have hkl : k + n ≤ l := by omega
            have rt := (hr.lo k hk).take n (by omega)
            have hlo := hr.lo (k + n) hkl
            rw [List.drop_drop] at hlo rt
            rw [← Nat.add_assoc] at hlo
            have hsl2 := run_lo (P := Try.prog) Try.underlying27 u8info A l c (k + n) hkl
            have hsl1 := run_lohi (P := Try.prog) Try.underlying27 u8info A l c k (k + n) (by omega) (by omega)
            rw [Nat.add_sub_cancel_left] at hsl1
            obtain ⟨v1, w1, r1, o1, k1⟩ := run_appB_nil (P := Try.prog) (ty := 27) w Try.underlying27 u8info rt (by simp; omega)
            have h1 := h.keepN k1
            have c01 : w1.cell? ⟨g, 0, none⟩ = some (.slice A l c) := by rw [k1.cell h.lt (fun x => x)]; exact c0
            have f01 := h1.fz 0
            have hw := h1.setRest (hlo.keepN k1) (by simp; omega) (fun i hi => hF i (loA_own hi))
            have kw := Kp.after k1 (kp1_set (w := w1) h.fit 0 (.slice (loA A c (k + n)) (l - (k + n)) (c - (k + n))))
            have ow := o1.keep (S := fun i => i = g) (kp1_set (w := w1) (F := fun i => i = g) rfl 0 (.slice (loA A c (k + n)) (l - (k + n)) (c - (k + n)))) (fun i hi => by have := hi.1; have := h.lt; omega)
            generalize k + n = kn at *
            clear hR HT hlk' hlo rt
            go_wp2_with (refine app_op r1 rfl rfl ?_)
            go_ret
            exact ⟨v1, rfl, by rw [HR.out]; exact ow.wide (fun k _ hk => ⟨hk.1, by have := hk.2; simpa using this⟩), by rw [HR.out]; exact hw, kw⟩
      · have hR := HT.out
        rw [if_pos he] at hR
        have HR := Lib.hid hR
        have hei : ¬ (e0 : Int) = 0 := by omega
        clear hR HT es
        go_wp2_with fail
        refine (rfFail_c (e := e0) h).mono ?_
        rintro e w2 ⟨⟨u, rfl⟩, h2, k2⟩
        go_wp2
        go_ret
        exact ⟨.slice none 0 0, rfl, by rw [HR.out]; exact OwB.nil _ _ _, by rw [HR.out]; exact h2, k2⟩
  · have hr : rBytes xs a f most = ([], a, f) := by simp [rBytes, hf]
    have HR := Lib.hid hr
    have hfi : ¬ f = 0 := hf
    clear hr
    go_wp2
    go_ret
    exact ⟨.slice none 0 0, rfl, by rw [HR.out]; exact OwB.nil _ _ _, by rw [HR.out]; exact h, Kp.refl _ _⟩
end Go.Proofs.Yteokkpmndfekoaa
