/- The document's disk: the small calls. -/
import Derived.Test.YthkbgbbejgpeaaaYA
namespace Go.Proofs.Ythkbgbbejgpeaaa
open Go Go.RowKit
set_option maxRecDepth 100000

theorem copied_r {w : World} {v : Value} {xs : List UInt8} (h : RdB w v xs) (hl : xs.length ≤ 1000000000) : Calls Try.prog 64 #[v] w (GotB 5 w xs) := by
  obtain ⟨A, c, rfl, -⟩ := h.form
  obtain ⟨n, hn⟩ : ∃ n, xs.length = n := ⟨_, rfl⟩
  obtain ⟨v', w', r, o, k⟩ := run_appB_nil (P := Try.prog) (ty := 28) w Try.underlying28 u8info h (by omega)
  rw [hn] at r ⊢
  have HO := Lib.hid o
  have HN := Lib.hid hn
  clear h hl hn o
  go_enter Try.func64, Try.ntmps64
  go_wp2_with (refine app_op r rfl rfl ?_)
  go_ret
  exact ⟨_, rfl, HO.out, k⟩
theorem zeros_r {w : World} {n : Nat} (hn : n ≤ 1000000000) : Calls Try.prog 56 #[.int .i64 (n : Int)] w (GotB 5 w (List.replicate n 0)) := by
  obtain ⟨W1, hmk, ho, k1, hz⟩ := made_zeros w n hn
  have ho2 := ho.wide (G := Iv w.heap.size W1.heap.size) (fun b _ hb => ⟨by omega, by omega⟩)
  have HO := Lib.hid ho2
  clear ho ho2 hz
  go_enter Try.func56, Try.ntmps56
  go_wp2
  go_ret
  exact ⟨_, rfl, HO.out, k1⟩
theorem only_r {w : World} {v : Value} {xs : List UInt8} (h : RdB w v xs) (hl : xs.length ≤ 1000000000) : Calls Try.prog 63 #[v] w (SameP w (decide (xs = List.replicate xs.length 0))) := by
  obtain ⟨A, c, rfl, -⟩ := h.form
  obtain ⟨L, hL⟩ : ∃ L, xs.length = L := ⟨_, rfl⟩
  rw [hL] at h hl ⊢
  have HA := Lib.hid h
  have HL := Lib.hid hL
  clear h hL
  go_enter Try.func63, Try.ntmps63
  go_wp2_with fail
  go_loopw [3] (fun j wr => ∃ q : Nat, q ≤ L ∧ j = .int .i64 q ∧ xs.take q = List.replicate q 0 ∧ KpN w wr) (fun j _ => L - (intOf j).toNat)
  case atStart => exact ⟨0, Nat.zero_le _, rfl, rfl, Kp.refl _ _⟩
  case round =>
    obtain ⟨q, hq, rfl, htk, hk⟩ := hrel
    by_cases hlt : q < L
    · have hqx : q < xs.length := by rw [HL.out]; exact hlt
      obtain ⟨a, rfl, h1⟩ := RdC.cellAt (RdC.keepN HA.out hk) q (by simpa [bvs] using hqx)
      simp only [bvs, List.getElem_map] at h1
      have HTK := Lib.hid htk
      have hstep : xs[q] = 0 → xs.take (q + 1) = List.replicate (q + 1) 0 := fun e => by
        rw [List.take_succ_eq_append_getElem hqx, HTK.out, e, List.replicate_succ']
      have hdiff : ¬ xs[q] = 0 → ¬ xs = List.replicate L 0 := fun h e => h (by
        have : xs[q]? = some 0 := by rw [e, List.getElem?_replicate, if_pos hlt]
        rw [List.getElem?_eq_getElem hqx] at this
        exact Option.some.inj this)
      obtain ⟨x, hxx⟩ : ∃ x, xs[q] = x := ⟨_, rfl⟩
      rw [hxx] at h1 hstep hdiff
      simp only [bv] at h1
      have hz : x = 0 ↔ (x.toNat : Int) = 0 := ⟨fun e => by rw [e]; rfl, fun e => UInt8.toNat_inj.1 (Int.ofNat_inj.1 e)⟩
      rw [hz] at hstep hdiff
      obtain ⟨X, hX⟩ : ∃ X, (x.toNat : Int) = X := ⟨_, rfl⟩
      rw [hX] at h1 hstep hdiff
      clear hz hX
      have HS := Lib.hid (And.intro hstep hdiff)
      clear hxx htk hstep hdiff
      by_cases hxy : X = 0
      · subst hxy
        go_wp2
        go_roundw
        case rel => exact ⟨q + 1, by omega, by go_num, HS.out.1 rfl, hk⟩
        case measure => exact meas_up hlt
      · have hd : decide (xs = List.replicate L 0) = false := by simpa using HS.out.2 hxy
        have HD := Lib.hid hd
        clear hd
        go_wp2
        go_ret
        rw [HD.out]
        exact ⟨rfl, hk⟩
    · have hqL : q = L := by omega
      subst hqL
      have hd : decide (xs = List.replicate q 0) = true := by
        rw [List.take_of_length_le (by rw [HL.out]; omega)] at htk
        simpa using htk
      have HD := Lib.hid hd
      clear hd htk
      go_wp2
      go_ret
      rw [HD.out]
      exact ⟨rfl, hk⟩
section
variable {w : World} {F : Nat → Prop} {g b : Nat} {tv vv : Nat → Value} {vs : Nat → List (Value × List UInt8)} {d : Dk}
theorem none_r (h : RefM w F g b tv vv vs d) : Calls Try.prog 55 #[.pointer (some ⟨g, 0, none⟩)] w fun e w' => e = .returned (.bool false) ∧ w = w' := by
  have c0 := h.c0
  have n1 := h.n1
  have n0 : ((d.n : Int) == 0) = false := by simp; omega
  go_enter Try.func55, Try.ntmps55
  go_wp2
  go_ret
  exact ⟨rfl, rfl⟩
theorem sectors_r (h : RefM w F g b tv vv vs d) : Calls Try.prog 31 #[.pointer (some ⟨g, 0, none⟩)] w fun e w' => e = .returned (.int .i64 (d.n : Int)) ∧ w = w' := by
  have c0 := h.c0
  go_enter Try.func31, Try.ntmps31
  go_wp2_with fail
  refine (none_r h).mono ?_
  rintro e w2 ⟨rfl, rfl⟩
  go_wp2
  go_ret
  exact ⟨rfl, rfl⟩
theorem down_r (h : RefM w F g b tv vv vs d) : Calls Try.prog 75 #[.pointer (some ⟨g, 0, none⟩)] w fun e w' => e = .returned (.bool d.off) ∧ w = w' := by
  have c1 := h.c1
  obtain ⟨o, hq⟩ : ∃ o, d.off = o := ⟨_, rfl⟩
  rw [hq] at c1 ⊢
  clear hq
  go_enter Try.func75, Try.ntmps75
  rcases o with _ | _
  all_goals
    go_wp2_with fail
    refine (none_r h).mono ?_
    rintro e w2 ⟨rfl, rfl⟩
    go_wp2
    go_ret
    exact ⟨rfl, rfl⟩
theorem there_r {i : Int} (h : RefM w F g b tv vv vs d) : Calls Try.prog 87 #[.pointer (some ⟨g, 0, none⟩), .int .i64 i] w fun e w' => e = .returned (.bool (hasB d i)) ∧ w = w' := by
  have c0 := h.c0
  have n2 := h.n2
  go_enter Try.func87, Try.ntmps87
  by_cases h0 : 0 ≤ i
  · by_cases h1 : i < (d.n : Int)
    · have hB : hasB d i = true := by simp [hasB, h0, h1]
      have HB := Lib.hid hB
      clear hB
      go_wp2_with fail
      refine (none_r h).mono ?_
      rintro e w2 ⟨rfl, rfl⟩
      go_wp2
      go_ret
      exact ⟨by rw [HB.out]; rfl, rfl⟩
    · have hd : decide (i < (d.n : Int)) = false := by simpa using h1
      have hB : hasB d i = false := by simp [hasB, h1]
      have HB := Lib.hid hB
      clear hB
      go_wp2_with fail
      refine (none_r h).mono ?_
      rintro e w2 ⟨rfl, rfl⟩
      go_wp2
      go_ret
      exact ⟨by rw [HB.out]; rfl, rfl⟩
  · have hB : hasB d i = false := by simp [hasB, h0]
    have HB := Lib.hid hB
    have h0' : ¬ (i ≥ 0) := h0
    clear hB
    go_wp2_with fail
    refine (none_r h).mono ?_
    rintro e w2 ⟨rfl, rfl⟩
    go_wp2
    go_ret
    exact ⟨by rw [HB.out]; rfl, rfl⟩
theorem done_r (h : RefM w F g b tv vv vs d) : Calls Try.prog 88 #[.pointer (some ⟨g, 0, none⟩)] w fun e w' => e = .returned (.bool (goesD d).1) ∧ RefM w' F g b tv vv vs (goesD d).2 ∧ Kp (fun i => i = g) w w' := by
  have c1 := h.c1
  have c2 := h.c2
  have f1 := h.fz 1
  have f2 := h.fz 2
  have hb := h.fb
  go_enter Try.func88, Try.ntmps88
  by_cases ho : d.off = true
  · have hg : goesD d = (false, d) := by simp [goesD, ho]
    have HG := Lib.hid hg
    rw [ho] at c1
    clear hg
    go_wp2
    go_ret
    exact ⟨by rw [HG.out]; rfl, by rw [HG.out]; exact h, Kp.refl _ _⟩
  · have ho' : d.off = false := by simpa using ho
    rw [ho'] at c1
    by_cases h0 : d.fuse = 0
    · have hg : goesD d = (false, { d with off := true, fuse := -1 }) := by simp [goesD, ho', h0]
      have HG := Lib.hid hg
      have hw := (h.setOff true).setFuse (-1) (by omega)
      have kw := (kp1_set (w := w) (F := fun i => i = g) rfl 1 (.bool true)).trans (kp1_set (F := fun i => i = g) rfl 2 (.int .i64 (-1))) (U := fun i => i = g) (fun _ _ x => x) (fun _ _ x => x)
      rw [h0] at c2
      clear hg ho
      go_wp2
      go_ret
      exact ⟨by rw [HG.out]; rfl, by rw [HG.out]; exact hw, kw⟩
    · by_cases h1 : 0 < d.fuse
      · have hg : goesD d = (true, { d with fuse := d.fuse - 1 }) := by simp [goesD, ho', h0, h1]
        have HG := Lib.hid hg
        have hw := h.setFuse (d.fuse - 1) (by omega)
        have kw := kp1_set (w := w) (F := fun i => i = g) rfl 2 (.int .i64 (d.fuse - 1))
        clear hg ho
        go_wp2
        go_ret
        exact ⟨by rw [HG.out]; rfl, by rw [HG.out]; exact hw, kw⟩
      · have hg : goesD d = (true, d) := by simp [goesD, ho', h0, h1]
        have HG := Lib.hid hg
        clear hg ho
        go_wp2
        go_ret
        exact ⟨by rw [HG.out]; rfl, by rw [HG.out]; exact h, Kp.refl _ _⟩
theorem cut_r {n : Int} (h : RefM w F g b tv vv vs d) (hn : -9223372036854775808 ≤ n ∧ n ≤ 9223372036854775807) :
    Calls Try.prog 71 #[.pointer (some ⟨g, 0, none⟩), .int .i64 n] w fun e w' => (∃ u, e = .returned u) ∧ RefM w' F g b tv vv vs (cutD d n) ∧ Kp (fun i => i = g) w w' := by
  have c1 := h.c1
  have c2 := h.c2
  have f2 := h.fz 2
  go_enter Try.func71, Try.ntmps71
  go_wp2_with fail
  refine (none_r h).mono ?_
  rintro e w2 ⟨rfl, rfl⟩
  by_cases ho : d.off = true
  · have hg : cutD d n = d := by simp [cutD, ho]
    have HG := Lib.hid hg
    rw [ho] at c1
    clear hg
    go_wp2
    refine bodyPost_ret (results_none rfl _ _ _) rfl ?_
    exact ⟨⟨_, rfl⟩, by rw [HG.out]; exact h, Kp.refl _ _⟩
  · have ho' : d.off = false := by simpa using ho
    rw [ho'] at c1
    have hg : cutD d n = { d with fuse := max n (-1) } := by simp [cutD, ho']
    have HG := Lib.hid hg
    have hw := h.setFuse (max n (-1)) (by omega)
    have kw := kp1_set (w := w) (F := fun i => i = g) rfl 2 (.int .i64 (max n (-1)))
    clear hg ho
    go_wp2
    go_end0
    exact ⟨⟨_, rfl⟩, by rw [HG.out]; exact hw, kw⟩
end

section
variable {w : World} {F : Nat → Prop} {g b : Nat} {tv vv : Nat → Value} {vs : Nat → List (Value × List UInt8)} {d : Dk}
theorem RefM.lenV (h : RefM w F g b tv vv vs d) {i : Nat} (hi : i < d.n) : (vs i).length = (d.ca i).length := by rw [← h.va i hi, List.length_map]
theorem RefM.formV (h : RefM w F g b tv vv vs d) {i : Nat} (hi : i < d.n) : ∃ A c, vv i = .slice A (d.ca i).length c := by
  obtain ⟨A, c, hv, _⟩ := RdC.form (h.vx i hi).row.reads
  rw [h.lenV hi] at hv
  exact ⟨A, c, hv⟩
/-- the version p -/
theorem RefM.verAt (h : RefM w F g b tv vv vs d) {i : Nat} (hi : i < d.n) (p : Nat) (hp : p < (d.ca i).length) : ∃ gv cv u, vv i = .slice (some ⟨gv, 0, none⟩) (d.ca i).length cv ∧ gv ≠ g ∧ gv ≠ b ∧ gv < w.heap.size ∧ w.cell? ⟨gv, p, none⟩ = some u ∧ OwB w 5 F u (d.ca i)[p] ∧ (∀ m, u.ownBlock = some m → m ≠ g ∧ m ≠ b) := by
  have hl := h.lenV hi
  have hp2 : p < (vs i).length := by omega
  obtain ⟨gv, cv, hv, -, -⟩ := (h.vx i hi).form (by omega)
  have ho := h.vx i hi
  rw [hv] at ho
  have he := (h.vx i hi).each p hp2
  have hs : (vs i)[p].2 = (d.ca i)[p] := by
    have := h.va i hi
    have h2 : ((vs i).map Prod.snd)[p]'(by simpa using hp2) = (d.ca i)[p] := by simp only [this]
    simpa using h2
  rw [hs] at he
  rw [hl] at hv
  have hd := h.sepd i hi gv (by rw [hv]; rfl)
  exact ⟨gv, cv, _, hv, hd.1, hd.2, ho.row.lt gv rfl, ho.cellAt p hp2, he, h.seps i hi p hp2⟩
theorem nilnil (W : World) : (binOp .eql 28 (.slice none 0 0) (.slice none 0 0)).run Try.prog W = .ok (.bool true) W := Lib.run_eql_slice_nil (P := Try.prog) W 28 5 none 0 0 0 0 Try.underlying28
theorem somenil (W : World) (a : Addr) (n c : Nat) : (binOp .eql 28 (.slice (some a) n c) (.slice none 0 0)).run Try.prog W = .ok (.bool false) W := Lib.run_eql_slice_nil (P := Try.prog) W 28 5 (some a) n c 0 0 Try.underlying28
theorem RefM.formT (h : RefM w F g b tv vv vs d) {i : Nat} (hi : i < d.n) : ∃ A n c, tv i = .slice A n c := by
  rcases h.tx i hi with ⟨ht, -⟩ | ⟨-, ht⟩
  · exact ⟨_, _, _, ht⟩
  · obtain ⟨A, c, hv, -⟩ := ht.readsB.form
    exact ⟨_, _, _, hv⟩
set_option maxHeartbeats 3200000 in
theorem read_r {i : Int} (h : RefM w F g b tv vv vs d) (hi : -9223372036854775808 ≤ i ∧ i ≤ 9223372036854775807) :
    Calls Try.prog 73 #[.pointer (some ⟨g, 0, none⟩), .int .i64 i] w (DReadP (readD d i) w) := by
  have c0 := h.c0
  have c1 := h.c1
  have n2 := h.n2
  go_enter Try.func73, Try.ntmps73
  go_wp2_with fail
  refine (there_r h).mono ?_
  rintro e w2 ⟨rfl, rfl⟩
  by_cases hb : 0 ≤ i ∧ i < (d.n : Int)
  · obtain ⟨j, rfl⟩ := Int.eq_ofNat_of_zero_le hb.1
    have hjn : j < d.n := by omega
    have hB : hasB d (j : Int) = true := by simp [hasB]; omega
    rw [hB]
    by_cases ho : d.off = true
    · have hr : readD d (j : Int) = ([], 5) := by simp [readD, hB, ho]
      have HR := Lib.hid hr
      rw [ho] at c1
      clear hr hB
      go_wp2
      go_ret2
      rw [HR.out]
      exact ⟨_, rfl, OwB.nil _ _ _, Kp.refl _ _⟩
    · have ho' : d.off = false := by simpa using ho
      rw [ho'] at c1
      have t0 := h.t0 j hjn
      have t1 := h.t1 j hjn
      have t2 := h.t2 j hjn
      have hblt := h.lt.2
      have k1 : KpN w (w.alloc (.cells #[tv j, .bool (d.to j), vv j] 96)) := (Kp.refl _ _).alloc _
      rcases hq : d.ca j with _ | ⟨x, r⟩
      · obtain ⟨A, c, hv⟩ := h.formV hjn
        rw [hq] at hv
        have hv : vv j = .slice A 0 c := hv
        rw [hv] at t2 k1
        rcases h.tx j hjn with ⟨ht, hz⟩ | ⟨ht, hz⟩
        · rw [ht] at t0 k1
          by_cases hto : d.to j = true
          · have hr : readD d (j : Int) = ([], 40) := by simp [readD, hB, ho', hq, hto]
            have HR := Lib.hid hr
            rw [hto] at t1 k1
            clear hr hB hq
            go_wp2
            go_ret2
            rw [HR.out]
            exact ⟨_, rfl, OwB.nil _ _ _, k1⟩
          · have hto' : d.to j = false := by simpa using hto
            have hr : readD d (j : Int) = (zsec, 0) := by simp [readD, hB, ho', hq, hto', hz]
            have HR := Lib.hid hr
            rw [hto'] at t1 k1
            have qn := nilnil
            clear hr hB hq hz
            go_wp2_with fail
            refine (zeros_r (n := 128) (by omega)).mono ?_
            rintro e w3 ⟨u, rfl, o3, k3⟩
            go_wp2
            go_ret2
            rw [HR.out]
            exact ⟨_, rfl, o3.wide (fun y _ hy => ⟨by have := hy.1; have := k1.size; omega, hy.2⟩), k1.thenN k3⟩
        · have hr : readD d (j : Int) = (d.du j, 0) := by simp [readD, hB, ho', hq, ht]
          have HR := Lib.hid hr
          have hl := h.len j hjn
          obtain ⟨gt, ct, htv, -, -⟩ := hz.form (by omega)
          rw [htv] at t0 k1 hz
          rw [ht] at t1 k1
          have hz1 := hz.readsB.keepN k1
          rw [hl] at t0 k1 hz1
          have HZ := Lib.hid hz1
          have HLn := Lib.hid hl
          have qn := somenil
          clear hr hB hq hz htv hl hz1
          go_wp2_with fail
          refine (copied_r HZ.out (by rw [HLn.out]; omega)).mono ?_
          rintro e w3 ⟨u, rfl, o3, k3⟩
          go_wp2
          go_ret2
          rw [HR.out]
          exact ⟨_, rfl, o3.wide (fun y _ hy => ⟨by have := hy.1; have := k1.size; omega, hy.2⟩), k1.thenN k3⟩
      · obtain ⟨M, hM⟩ : ∃ M, (d.ca j).length = M + 1 := ⟨r.length, by rw [hq]; rfl⟩
        obtain ⟨gv, cv, u, hv, -, -, hgl, hcu, hou, -⟩ := h.verAt hjn M (by omega)
        obtain ⟨s, hs⟩ : ∃ s, (d.ca j)[M]'(by omega) = s := ⟨_, rfl⟩
        rw [hs] at hou
        rw [hM] at hv
        rw [hv] at t2 k1
        have hs128 : s.length = 128 := by rw [← hs]; exact h.clen j hjn _ (List.getElem_mem _)
        have hlast : (d.ca j).getLast? = some s := by
          rw [List.getLast?_eq_getElem?, hM, Nat.add_sub_cancel, List.getElem?_eq_getElem (by omega), hs]
        have hr : readD d (j : Int) = (s, 0) := by simp [readD, hB, ho', hlast]
        have hMb := (h.vx j hjn).row.bound
        rw [h.lenV hjn, hM] at hMb
        obtain ⟨gu, cu, hu, -, -⟩ := hou.form (by omega)
        rw [hu, hs128] at hcu
        rw [hu] at hou
        have hou1 := hou.readsB.keepN k1
        rw [hs128] at hou1
        have HR := Lib.hid hr
        have HS := Lib.hid hs128
        have HO := Lib.hid hou1
        obtain ⟨TA, TN, TC, hT⟩ := h.formT hjn
        obtain ⟨B, hBB⟩ : ∃ B, d.to j = B := ⟨_, rfl⟩
        rw [hT] at t0 k1 HO
        rw [hBB] at t1 k1 HO
        clear hr hB hq hM hs hs128 hlast hv hu hou hou1 hT hBB
        go_wp2_with fail
        refine (copied_r HO.out (by rw [HS.out]; omega)).mono ?_
        rintro e w3 ⟨u, rfl, o3, k3⟩
        go_wp2
        go_ret2
        rw [HR.out]
        exact ⟨_, rfl, o3.wide (fun y _ hy => ⟨by have := hy.1; have := k1.size; omega, hy.2⟩), k1.thenN k3⟩
  · have hB : hasB d i = false := by simp [hasB]; omega
    have hr : readD d i = ([], 1) := by simp [readD, hB]
    have HR := Lib.hid hr
    rw [hB]
    clear hr hB
    go_wp2
    go_ret2
    rw [HR.out]
    exact ⟨_, rfl, OwB.nil _ _ _, Kp.refl _ _⟩
end
end Go.Proofs.Ythkbgbbejgpeaaa
