/- bundle.good. -/
import Derived.Test.YteokkpmndfekoaaBX
namespace Go.Proofs.Yteokkpmndfekoaa
open Go Go.RowKit Go.ChangeShapes Go.WideShapes Go.ChangeAt
set_option maxRecDepth 100000

theorem headB_of {b : Bdl} {r : Bool} (h : good b = r) : (¬ (b.fl ≤ 7) → r = false) ∧ (eidB b.e0 b.e1 = false → r = false) ∧ (eidB b.e2 b.e3 = false → r = false) ∧ (eidB b.e4 b.e5 = false → r = false) ∧ (¬ (b.ti ≤ 281474976710655) → r = false) ∧ (¬ (b.sq ≤ 281474976710655) → r = false) ∧ (¬ (b.li ≤ 281474976710655) → r = false) ∧ (¬ (b.bl.length ≤ 8) → r = false) ∧ (¬ (b.pl.length ≤ 512) → r = false) ∧ (blksB b.bl 0 = false → r = false) ∧
    (b.fl ≤ 7 → eidB b.e0 b.e1 = true → eidB b.e2 b.e3 = true → eidB b.e4 b.e5 = true → b.ti ≤ 281474976710655 → b.sq ≤ 281474976710655 → b.li ≤ 281474976710655 → b.bl.length ≤ 8 → b.pl.length ≤ 512 → blksB b.bl 0 = true → r = true) := by
  have key : ∀ {p q : Nat}, eidB p q = true ↔ p ≤ 281474976710655 ∧ q ≤ 281474976710655 := fun {p q} => by unfold eidB; simp
  have keyf : ∀ {p q : Nat}, eidB p q = false → ¬ (p ≤ 281474976710655 ∧ q ≤ 281474976710655) := fun {p q} e hh => by rw [key.2 hh] at e; cases e
  have hf : ∀ {P : Prop}, (good b = true → P) → (¬ P → r = false) := fun {P} i hn => by
    rcases r with _ | _
    · rfl
    · exact absurd (i h) hn
  have e0 : good b = true → b.e0 ≤ 281474976710655 ∧ b.e1 ≤ 281474976710655 ∧ b.e2 ≤ 281474976710655 ∧ b.e3 ≤ 281474976710655 ∧ b.e4 ≤ 281474976710655 ∧ b.e5 ≤ 281474976710655 ∧ b.ti ≤ 281474976710655 ∧ b.sq ≤ 281474976710655 ∧ b.li ≤ 281474976710655 := fun hg => by
    have := ((good_iff b).1 hg).2.1
    unfold nine at this
    simpa only [List.mem_cons, List.not_mem_nil, or_false, forall_eq_or_imp, forall_eq] using this
  refine ⟨hf fun hg => ((good_iff b).1 hg).1, fun e => hf (fun hg => (⟨(e0 hg).1, (e0 hg).2.1⟩ : b.e0 ≤ 281474976710655 ∧ b.e1 ≤ 281474976710655)) (keyf e), fun e => hf (fun hg => (⟨(e0 hg).2.2.1, (e0 hg).2.2.2.1⟩ : b.e2 ≤ 281474976710655 ∧ b.e3 ≤ 281474976710655)) (keyf e), fun e => hf (fun hg => (⟨(e0 hg).2.2.2.2.1, (e0 hg).2.2.2.2.2.1⟩ : b.e4 ≤ 281474976710655 ∧ b.e5 ≤ 281474976710655)) (keyf e), hf fun hg => (e0 hg).2.2.2.2.2.2.1, hf fun hg => (e0 hg).2.2.2.2.2.2.2.1, hf fun hg => (e0 hg).2.2.2.2.2.2.2.2, hf fun hg => ((good_iff b).1 hg).2.2.1, hf fun hg => ((good_iff b).1 hg).2.2.2.1, fun e => hf (fun hg => ((good_iff b).1 hg).2.2.2.2) (by rw [e]; simp), ?_⟩
  intro h1 h2 h3 h4 h5 h6 h7 h8 h9 h10
  rw [← h]
  have a2 := key.1 h2
  have a3 := key.1 h3
  have a4 := key.1 h4
  refine (good_iff b).2 ⟨h1, ?_, h8, h9, h10⟩
  unfold nine
  simp only [List.mem_cons, List.not_mem_nil, or_false, forall_eq_or_imp, forall_eq]
  exact ⟨a2.1, a2.2, a3.1, a3.2, a4.1, a4.2, h5, h6, h7⟩
theorem SlAt.takeS {α : Type} {w : World} {n k c : Nat} {A : Option Addr} {rd : World → List Value → α → Prop} {ys : List α} (h : SlAt w n rd (.slice A k c) ys) (q : Nat) (hq : q ≤ ys.length) : SlAt w n rd (.slice A q c) (ys.take q) := by
  obtain ⟨A', c', hv, hc, h3⟩ := h
  injection hv with h1 h2 h4
  subst h1 h4
  have hl : (ys.take q).length = q := by simp; omega
  refine ⟨A, c, by rw [hl], by omega, fun j hj => ?_⟩
  obtain ⟨ad, cs, h5, h6, h7, h8⟩ := h3 j (by omega)
  exact ⟨ad, cs, h5, h6, h7, by simpa using h8⟩
set_option maxHeartbeats 12800000 in
theorem good_c {w : World} {bv pv : Value} {b : Bdl} (h : RdBd w bv pv b) (hsz : bdSize b ≤ 10000000) : Calls Try.prog 59 #[bdV b bv pv] w fun e w' => e = .returned (.bool (good b)) ∧ KpN w w' := by
  obtain ⟨hbl, hpl, hda⟩ := bdSize_len b
  obtain ⟨hok, hb, hp⟩ := h
  obtain ⟨bA, bc, rfl, hbc⟩ := hb.form
  obtain ⟨pA, pc, rfl, -⟩ := hp.form
  obtain ⟨r, hr⟩ : ∃ r, good b = r := ⟨_, rfl⟩
  obtain ⟨r1, r2, r3, r4, r5, r6, r7, r8, r9, r10, r11⟩ := headB_of hr
  rw [hr]
  obtain ⟨fl, e0, e1, e2, e3, e4, e5, ti, sq, li, l, pl⟩ := b
  dsimp only at hb hp hbc hbl hpl hda r1 r2 r3 r4 r5 r6 r7 r8 r9 r10 r11 ⊢
  obtain ⟨N, hN⟩ : ∃ n, l.length = n := ⟨_, rfl⟩
  obtain ⟨M, hM⟩ : ∃ m, pl.length = m := ⟨_, rfl⟩
  rw [hN] at hb hbc hbl r8 r11 ⊢
  rw [hM] at hpl r9 r11 ⊢
  have hnb : N ≤ 2500000 := by omega
  have hmb : M ≤ 10000000 := by omega
  obtain ⟨w1, hw1⟩ : ∃ w1, w.alloc (.cells #[n64 fl, n64 e0, n64 e1, n64 e2, n64 e3, n64 e4, n64 e5, n64 ti, n64 sq, n64 li, .slice bA N bc, .slice pA M pc] 34) = w1 := ⟨_, rfl⟩
  have k1 : KpN w w1 := by rw [← hw1]; exact (Kp.refl _ w).alloc _
  have hB : CellsAt w1 w.heap.size [n64 fl, n64 e0, n64 e1, n64 e2, n64 e3, n64 e4, n64 e5, n64 ti, n64 sq, n64 li, .slice bA N bc, .slice pA M pc] := by rw [← hw1]; exact CellsAt.new w [n64 fl, n64 e0, n64 e1, n64 e2, n64 e3, n64 e4, n64 e5, n64 ti, n64 sq, n64 li, .slice bA N bc, .slice pA M pc] 34
  have hz1 : w1.heap.size = w.heap.size + 1 := by rw [← hw1]; simp
  have b0 := hB.at_ 0 rfl
  have b1 := hB.at_ 1 rfl
  have b2 := hB.at_ 2 rfl
  have hkeep : ∀ W, KpN w1 W → CellsAt W w.heap.size [n64 fl, n64 e0, n64 e1, n64 e2, n64 e3, n64 e4, n64 e5, n64 ti, n64 sq, n64 li, .slice bA N bc, .slice pA M pc] := fun W k => hB.keep (by omega) k (fun x => x)
  have HH := Lib.hid (And.intro hw1 (And.intro k1 (And.intro hkeep hz1)))
  have HB := Lib.hid (And.intro hN (And.intro hb (And.intro hda hsz)))
  have R1 := Lib.hid r1
  have R2 := Lib.hid (And.intro r2 (And.intro r3 r4))
  have R3 := Lib.hid (And.intro r5 (And.intro r6 r7))
  have R4 := Lib.hid (And.intro r8 (And.intro r9 (And.intro r10 r11)))
  clear hw1 k1 hB hz1 hkeep hb hp hN hM hda hsz hok hr r1 r2 r3 r4 r5 r6 r7 r8 r9 r10 r11
  go_enter Try.func59, Try.ntmps59
  by_cases t0 : fl ≤ 7
  rotate_left 1
  · have t0' : (7 : Int) < (fl : Int) := by omega
    have HRR := Lib.hid (R1.out t0)
    clear t0
    go_wp2_with ((with_reducible show wpList _ _ _ _ _ (World.alloc w _)); rw [HH.out.1])
    go_ret
    exact ⟨by rw [HRR.out]; rfl, HH.out.2.1⟩
  have t0' : decide ((7 : Int) < (fl : Int)) = false := by simp; omega
  have T0 := Lib.hid t0
  clear t0
  go_wp2_with (first | ((with_reducible show wpList _ _ _ _ _ (World.alloc w _)); rw [HH.out.1]) | fail)
  refine (eid_c w1 e0 e1).mono ?_
  rintro e v1 ⟨rfl, q1⟩
  rcases g1 : eidB e0 e1 with _ | _
  · have HRR := Lib.hid (R2.out.1 g1)
    have HK := Lib.hid (q1)
    go_wp2
    go_ret
    exact ⟨by rw [HRR.out]; rfl, HH.out.2.1.thenN HK.out⟩
  have b3 := (HH.out.2.2.1 v1 q1).at_ 3 rfl
  have b4 := (HH.out.2.2.1 v1 q1).at_ 4 rfl
  go_wp2_with fail
  refine (eid_c v1 e2 e3).mono ?_
  rintro e v2 ⟨rfl, q2⟩
  rcases g2 : eidB e2 e3 with _ | _
  · have HRR := Lib.hid (R2.out.2.1 g2)
    have HK := Lib.hid (q1.thenN q2)
    go_wp2
    go_ret
    exact ⟨by rw [HRR.out]; rfl, HH.out.2.1.thenN HK.out⟩
  have b5 := (HH.out.2.2.1 v2 (q1.thenN q2)).at_ 5 rfl
  have b6 := (HH.out.2.2.1 v2 (q1.thenN q2)).at_ 6 rfl
  go_wp2_with fail
  refine (eid_c v2 e4 e5).mono ?_
  rintro e v3 ⟨rfl, q3⟩
  rcases g3 : eidB e4 e5 with _ | _
  · have HRR := Lib.hid (R2.out.2.2 g3)
    have HK := Lib.hid ((q1.thenN q2).thenN q3)
    go_wp2
    go_ret
    exact ⟨by rw [HRR.out]; rfl, HH.out.2.1.thenN HK.out⟩
  have kv := (q1.thenN q2).thenN q3
  have b7 := (HH.out.2.2.1 v3 kv).at_ 7 rfl
  have b8 := (HH.out.2.2.1 v3 kv).at_ 8 rfl
  have b9 := (HH.out.2.2.1 v3 kv).at_ 9 rfl
  have b10 := (HH.out.2.2.1 v3 kv).at_ 10 rfl
  have b11 := (HH.out.2.2.1 v3 kv).at_ 11 rfl
  have HV := Lib.hid (And.intro (HH.out.2.1.thenN kv) kv)
  have HE := Lib.hid (And.intro T0.out (And.intro g1 (And.intro g2 g3)))
  clear q1 q2 q3 kv b0 b1 b2 b3 b4 b5 b6
  by_cases t : ti ≤ 281474976710655
  rotate_left 1
  · have t' : (281474976710655 : Int) < (ti : Int) := by omega
    have HRR := Lib.hid (R3.out.1 t)
    clear t
    go_wp2
    go_ret
    exact ⟨by rw [HRR.out]; rfl, HV.out.1⟩
  have t1' : decide ((281474976710655 : Int) < (ti : Int)) = false := by simp; omega
  have T1 := Lib.hid t
  clear t
  by_cases t : sq ≤ 281474976710655
  rotate_left 1
  · have t' : (281474976710655 : Int) < (sq : Int) := by omega
    have HRR := Lib.hid (R3.out.2.1 t)
    clear t
    go_wp2
    go_ret
    exact ⟨by rw [HRR.out]; rfl, HV.out.1⟩
  have t2' : decide ((281474976710655 : Int) < (sq : Int)) = false := by simp; omega
  have T2 := Lib.hid t
  clear t
  by_cases t : li ≤ 281474976710655
  rotate_left 1
  · have t' : (281474976710655 : Int) < (li : Int) := by omega
    have HRR := Lib.hid (R3.out.2.2 t)
    clear t
    go_wp2
    go_ret
    exact ⟨by rw [HRR.out]; rfl, HV.out.1⟩
  have t3' : decide ((281474976710655 : Int) < (li : Int)) = false := by simp; omega
  have T3 := Lib.hid t
  clear t
  by_cases t : N ≤ 8
  rotate_left 1
  · have t' : (8 : Int) < (N : Int) := by omega
    have HRR := Lib.hid (R4.out.1 t)
    clear t
    go_wp2
    go_ret
    exact ⟨by rw [HRR.out]; rfl, HV.out.1⟩
  have t4' : decide ((8 : Int) < (N : Int)) = false := by simp; omega
  have T4 := Lib.hid t
  clear t
  by_cases t : M ≤ 512
  rotate_left 1
  · have t' : (512 : Int) < (M : Int) := by omega
    have HRR := Lib.hid (R4.out.2.1 t)
    clear t
    go_wp2
    go_ret
    exact ⟨by rw [HRR.out]; rfl, HV.out.1⟩
  have t5' : decide ((512 : Int) < (M : Int)) = false := by simp; omega
  have T5 := Lib.hid t
  clear t
  go_wp2_with fail
  go_loopw [54] (fun i wr => ∃ q : Nat, q ≤ N ∧ i = .int .i64 q ∧ blksB l 0 = blksB l q ∧ KpN v3 wr) (fun i _ => N - (intOf i).toNat)
  case atStart => exact ⟨0, Nat.zero_le _, rfl, rfl, Kp.refl _ _⟩
  case round =>
    obtain ⟨q, hq, rfl, hbq, kr⟩ := hrel
    have HQ := Lib.hid hbq
    clear hbq b7 b8 b9 b10 b11
    by_cases hlt : q < N
    · have hql : q < l.length := by rw [HB.out.1]; exact hlt
      obtain ⟨ad, cs, rfl, -, hrow0, ⟨⟨dw, rfl, hdw⟩, hxo⟩⟩ := HB.out.2.1.row q hql
      have kwr := HV.out.1.thenN kr
      have hrow := hrow0.keepN kwr
      have hdr := hdw.keepN kwr
      have hda := HB.out.2.2.1 l[q] (List.getElem_mem hql)
      have hat := blksB_at l q hql
      have htk : SlAt w 4 BlkAt (.slice (some ad) q bc) (l.take q) := by
        have := HB.out.2.1
        exact this.takeS q (by omega)
      obtain ⟨x, hx⟩ : ∃ x, l[q] = x := ⟨_, rfl⟩
      rw [hx] at hrow hdr hda hat hxo
      have hfc := fun (W : World) (v : Value) (hv : RdB W v x.da) (k : KpN w W) => bfits_c hv (SlAt.keep htk k (fun x y => x.keep y)) hxo.1 (by simp; have := HB.out.1; omega)
      have htc := fun (W : World) (v : Value) (hv : RdB W v x.da) => tells_c hv (by have := HB.out.2.2.2; omega) hxo.1
      have hbb : blkB x (l.take q) = (fitsB x (l.take q) && tellsB x) := rfl
      obtain ⟨F1, hF1⟩ : ∃ z, fitsB x (l.take q) = z := ⟨_, rfl⟩
      obtain ⟨F2, hF2⟩ : ∃ z, tellsB x = z := ⟨_, rfl⟩
      rw [hbb, hF1, hF2] at hat
      rw [hF1] at hfc
      rw [hF2] at htc
      obtain ⟨xt, xn, xf, xd⟩ := x
      dsimp only at hrow hdr hda hfc htc
      obtain ⟨dA, dc, rfl, -⟩ := hdr.form
      obtain ⟨xl, hxl⟩ : ∃ x, xd.length = x := ⟨_, rfl⟩
      rw [hxl] at hrow hdr hda
      have c0 := hrow.c0
      have c1 := hrow.fld 0 rfl
      have c2 := hrow.fld 1 rfl
      have c3 := hrow.fld 2 rfl
      obtain ⟨w5, hw5⟩ : ∃ w5, wr.alloc (.cells #[n64 xt, n64 xn, n64 xf, .slice dA xl dc] 37) = w5 := ⟨_, rfl⟩
      have k5 : KpN wr w5 := by rw [← hw5]; exact (Kp.refl _ _).alloc _
      have hX : CellsAt w5 wr.heap.size [n64 xt, n64 xn, n64 xf, .slice dA xl dc] := by rw [← hw5]; exact CellsAt.new wr [n64 xt, n64 xn, n64 xf, .slice dA xl dc] 37
      have hz5 : w5.heap.size = wr.heap.size + 1 := by rw [← hw5]; simp
      have hrowW : ∀ W, KpN w5 W → RowAt W ⟨wr.heap.size, 0, none⟩ [n64 xt, n64 xn, n64 xf, .slice dA xl dc] := fun W k => (hX.keep (by omega) k (fun x => x)).1
      have hcellW : ∀ W, KpN w5 W → W.cell? ⟨w.heap.size, 10, none⟩ = some (.slice (some ad) N bc) := fun W k => (HH.out.2.2.1 W ((HV.out.2.thenN kr).thenN (k5.thenN k))).at_ 10 rfl
      have hltw : w.heap.size < w5.heap.size := by have := HH.out.2.2.2; have := HV.out.2.size; have := kr.size; omega
      have HX := Lib.hid (And.intro hw5 (And.intro hrowW (And.intro hcellW (And.intro hltw (And.intro (kwr.thenN k5) (And.intro (hdr.keepN k5) kr))))))
      have HC := Lib.hid (And.intro hfc htc)
      have HA := Lib.hid (And.intro hat k5)
      have hqb : q ≤ bc := by omega
      clear hrow hrow0 hdr hdw hda hxo hx htk hfc htc hbb hF1 hF2 hat hw5 k5 hX hrowW hcellW hltw kwr hxl kr hz5
      rcases F1 with _ | _
      · skip
        go_wp2_with fail
        rw [show wr.alloc (.cells #[.int .u64 (xt : Int), .int .u64 (xn : Int), .int .u64 (xf : Int), .slice dA xl dc] 37) = w5 from HX.out.1]
        refine rg_begin 12 (fun _ => False) (by kernel_rfl) (fun w6 d6 => ?_)
        refine rg_read 0 (d := (some 59)) (v := .agg #[n64 xt, n64 xn, n64 xf, .slice dA xl dc]) (by decide) (by kernel_rfl) (by kernel_rfl) rfl rfl (by kernel_rfl) (by kernel_rfl) (by kernel_rfl) (fun _ _ _ h => h) rfl (fun W hW => by exact run_load_op (HX.out.2.1 W (d6.thenN hW)) rfl Try.underlying37 rfl (show (Try.prog.info? 37).map (·.size) = some 4 by kernel_rfl)) ?_
        conv => arg 8; simp only [Act.put, List.setIfInBounds_toArray, List.set_cons_zero, List.set_cons_succ]
        refine rg_take 1 (d := (some 60)) (v := .pointer (some ⟨w.heap.size, 10, none⟩)) (by decide) rfl rfl (by kernel_rfl) (by kernel_rfl) (by kernel_rfl) (fun _ _ _ h => h) rfl (fun W => by go_simp) ?_
        conv => arg 8; simp only [Act.put, List.setIfInBounds_toArray, List.set_cons_zero, List.set_cons_succ]
        refine rg_read 2 (d := (some 61)) (v := .slice (some ad) N bc) (by decide) (by kernel_rfl) (by kernel_rfl) rfl rfl (by kernel_rfl) (by kernel_rfl) (by kernel_rfl) (fun _ _ _ h => h) rfl (fun W hW => by have hc := (fun W hW => HX.out.2.2.1 W (d6.thenN hW)) W hW; go_simp) ?_
        conv => arg 8; simp only [Act.put, List.setIfInBounds_toArray, List.set_cons_zero, List.set_cons_succ]
        refine rg_take 3 (d := (some 62)) (v := .int .i64 q) (by decide) rfl rfl (by kernel_rfl) (by kernel_rfl) (by kernel_rfl) (fun _ _ _ h => h) rfl (fun W => rfl) ?_
        conv => arg 8; simp only [Act.put, List.setIfInBounds_toArray, List.set_cons_zero, List.set_cons_succ]
        refine rg_take 4 (d := (some 63)) (v := .slice (some ad) q bc) (by decide) rfl rfl (by kernel_rfl) (by kernel_rfl) (by kernel_rfl) (fun _ _ _ h => h) rfl (fun W => by go_simp) ?_
        conv => arg 8; simp only [Act.put, List.setIfInBounds_toArray, List.set_cons_zero, List.set_cons_succ]
        refine rg_call 5 (d := (some 64)) (by kernel_rfl) (HC.out.1 w6 _ (HX.out.2.2.2.2.2.1.keepN d6) (HX.out.2.2.2.2.1.thenN d6)) rfl rfl (by kernel_rfl) rfl rfl ?_
        rintro e w7 ⟨rfl, k7⟩
        refine ⟨_, rfl, k7, ?_⟩
        conv => arg 8; simp only [Act.put, List.setIfInBounds_toArray, List.set_cons_zero, List.set_cons_succ]
        refine rg_take 6 (d := (some 65)) (v := .bool true) (by decide) rfl rfl (by kernel_rfl) (by kernel_rfl) (by kernel_rfl) (fun _ _ _ h => h) rfl (fun W => rfl) ?_
        conv => arg 8; simp only [Act.put, List.setIfInBounds_toArray, List.set_cons_zero, List.set_cons_succ]
        refine rg_take 7 (d := (some 66)) (v := .bool true) (by decide) rfl rfl (by kernel_rfl) (by kernel_rfl) (by kernel_rfl) (fun _ _ _ h => h) rfl (fun W => rfl) ?_
        conv => arg 8; simp only [Act.put, List.setIfInBounds_toArray, List.set_cons_zero, List.set_cons_succ]
        refine rg_skip 8 (d := (some 67)) (by decide) rfl rfl (by kernel_rfl) (by kernel_rfl) (by kernel_rfl) (fun _ _ _ h => h) rfl ?_
        conv => arg 8; simp only [Act.put, List.setIfInBounds_toArray, List.set_cons_zero, List.set_cons_succ]
        refine rg_skip 9 (d := (some 68)) (by decide) rfl rfl (by kernel_rfl) (by kernel_rfl) (by kernel_rfl) (fun _ _ _ h => h) rfl ?_
        conv => arg 8; simp only [Act.put, List.setIfInBounds_toArray, List.set_cons_zero, List.set_cons_succ]
        refine rg_skip 10 (d := (some 69)) (by decide) rfl rfl (by kernel_rfl) (by kernel_rfl) (by kernel_rfl) (fun _ _ _ h => h) rfl ?_
        conv => arg 8; simp only [Act.put, List.setIfInBounds_toArray, List.set_cons_zero, List.set_cons_succ]
        refine rg_take 11 (d := (some 70)) (v := .bool true) (by decide) rfl rfl (by kernel_rfl) (by kernel_rfl) (by kernel_rfl) (fun _ _ _ h => h) rfl (fun W => rfl) ?_
        conv => arg 8; simp only [Act.put, List.setIfInBounds_toArray, List.set_cons_zero, List.set_cons_succ]
        refine rg_done (by kernel_rfl) ?_
        have HF := Lib.hid (HX.out.2.2.2.2.1.thenN (d6.thenN k7))
        have HRR := Lib.hid (R4.out.2.2.1 (by rw [HQ.out, HA.out.1]; rfl))
        go_wp2_with fail
        go_ret
        exact ⟨by rw [HRR.out]; rfl, HF.out⟩
      · rcases F2 with _ | _
        · skip
          go_wp2_with fail
          rw [show wr.alloc (.cells #[.int .u64 (xt : Int), .int .u64 (xn : Int), .int .u64 (xf : Int), .slice dA xl dc] 37) = w5 from HX.out.1]
          refine rg_begin 12 (fun _ => False) (by kernel_rfl) (fun w6 d6 => ?_)
          refine rg_read 0 (d := (some 59)) (v := .agg #[n64 xt, n64 xn, n64 xf, .slice dA xl dc]) (by decide) (by kernel_rfl) (by kernel_rfl) rfl rfl (by kernel_rfl) (by kernel_rfl) (by kernel_rfl) (fun _ _ _ h => h) rfl (fun W hW => by exact run_load_op (HX.out.2.1 W (d6.thenN hW)) rfl Try.underlying37 rfl (show (Try.prog.info? 37).map (·.size) = some 4 by kernel_rfl)) ?_
          conv => arg 8; simp only [Act.put, List.setIfInBounds_toArray, List.set_cons_zero, List.set_cons_succ]
          refine rg_take 1 (d := (some 60)) (v := .pointer (some ⟨w.heap.size, 10, none⟩)) (by decide) rfl rfl (by kernel_rfl) (by kernel_rfl) (by kernel_rfl) (fun _ _ _ h => h) rfl (fun W => by go_simp) ?_
          conv => arg 8; simp only [Act.put, List.setIfInBounds_toArray, List.set_cons_zero, List.set_cons_succ]
          refine rg_read 2 (d := (some 61)) (v := .slice (some ad) N bc) (by decide) (by kernel_rfl) (by kernel_rfl) rfl rfl (by kernel_rfl) (by kernel_rfl) (by kernel_rfl) (fun _ _ _ h => h) rfl (fun W hW => by have hc := (fun W hW => HX.out.2.2.1 W (d6.thenN hW)) W hW; go_simp) ?_
          conv => arg 8; simp only [Act.put, List.setIfInBounds_toArray, List.set_cons_zero, List.set_cons_succ]
          refine rg_take 3 (d := (some 62)) (v := .int .i64 q) (by decide) rfl rfl (by kernel_rfl) (by kernel_rfl) (by kernel_rfl) (fun _ _ _ h => h) rfl (fun W => rfl) ?_
          conv => arg 8; simp only [Act.put, List.setIfInBounds_toArray, List.set_cons_zero, List.set_cons_succ]
          refine rg_take 4 (d := (some 63)) (v := .slice (some ad) q bc) (by decide) rfl rfl (by kernel_rfl) (by kernel_rfl) (by kernel_rfl) (fun _ _ _ h => h) rfl (fun W => by go_simp) ?_
          conv => arg 8; simp only [Act.put, List.setIfInBounds_toArray, List.set_cons_zero, List.set_cons_succ]
          refine rg_call 5 (d := (some 64)) (by kernel_rfl) (HC.out.1 w6 _ (HX.out.2.2.2.2.2.1.keepN d6) (HX.out.2.2.2.2.1.thenN d6)) rfl rfl (by kernel_rfl) rfl rfl ?_
          rintro e w7 ⟨rfl, k7⟩
          refine ⟨_, rfl, k7, ?_⟩
          conv => arg 8; simp only [Act.put, List.setIfInBounds_toArray, List.set_cons_zero, List.set_cons_succ]
          refine rg_take 6 (d := (some 65)) (v := .bool false) (by decide) rfl rfl (by kernel_rfl) (by kernel_rfl) (by kernel_rfl) (fun _ _ _ h => h) rfl (fun W => rfl) ?_
          conv => arg 8; simp only [Act.put, List.setIfInBounds_toArray, List.set_cons_zero, List.set_cons_succ]
          refine rg_take 7 (d := (some 66)) (v := .bool false) (by decide) rfl rfl (by kernel_rfl) (by kernel_rfl) (by kernel_rfl) (fun _ _ _ h => h) rfl (fun W => rfl) ?_
          conv => arg 8; simp only [Act.put, List.setIfInBounds_toArray, List.set_cons_zero, List.set_cons_succ]
          refine rg_read 8 (d := (some 67)) (v := .agg #[n64 xt, n64 xn, n64 xf, .slice dA xl dc]) (by decide) (by kernel_rfl) (by kernel_rfl) rfl rfl (by kernel_rfl) (by kernel_rfl) (by kernel_rfl) (fun _ _ _ h => h) rfl (fun W hW => by exact run_load_op (HX.out.2.1 W ((d6.thenN k7).thenN hW)) rfl Try.underlying37 rfl (show (Try.prog.info? 37).map (·.size) = some 4 by kernel_rfl)) ?_
          conv => arg 8; simp only [Act.put, List.setIfInBounds_toArray, List.set_cons_zero, List.set_cons_succ]
          refine rg_call 9 (d := (some 68)) (by kernel_rfl) (HC.out.2 w7 _ (HX.out.2.2.2.2.2.1.keepN (d6.thenN k7))) rfl rfl (by kernel_rfl) rfl rfl ?_
          rintro e w8 ⟨rfl, k8⟩
          refine ⟨_, rfl, k8, ?_⟩
          conv => arg 8; simp only [Act.put, List.setIfInBounds_toArray, List.set_cons_zero, List.set_cons_succ]
          refine rg_take 10 (d := (some 69)) (v := .bool true) (by decide) rfl rfl (by kernel_rfl) (by kernel_rfl) (by kernel_rfl) (fun _ _ _ h => h) rfl (fun W => rfl) ?_
          conv => arg 8; simp only [Act.put, List.setIfInBounds_toArray, List.set_cons_zero, List.set_cons_succ]
          refine rg_take 11 (d := (some 70)) (v := .bool true) (by decide) rfl rfl (by kernel_rfl) (by kernel_rfl) (by kernel_rfl) (fun _ _ _ h => h) rfl (fun W => rfl) ?_
          conv => arg 8; simp only [Act.put, List.setIfInBounds_toArray, List.set_cons_zero, List.set_cons_succ]
          refine rg_done (by kernel_rfl) ?_
          have HF := Lib.hid (HX.out.2.2.2.2.1.thenN ((d6.thenN k7).thenN k8))
          have HRR := Lib.hid (R4.out.2.2.1 (by rw [HQ.out, HA.out.1]; rfl))
          go_wp2_with fail
          go_ret
          exact ⟨by rw [HRR.out]; rfl, HF.out⟩
        · skip
          go_wp2_with fail
          rw [show wr.alloc (.cells #[.int .u64 (xt : Int), .int .u64 (xn : Int), .int .u64 (xf : Int), .slice dA xl dc] 37) = w5 from HX.out.1]
          refine rg_begin 12 (fun _ => False) (by kernel_rfl) (fun w6 d6 => ?_)
          refine rg_read 0 (d := (some 59)) (v := .agg #[n64 xt, n64 xn, n64 xf, .slice dA xl dc]) (by decide) (by kernel_rfl) (by kernel_rfl) rfl rfl (by kernel_rfl) (by kernel_rfl) (by kernel_rfl) (fun _ _ _ h => h) rfl (fun W hW => by exact run_load_op (HX.out.2.1 W (d6.thenN hW)) rfl Try.underlying37 rfl (show (Try.prog.info? 37).map (·.size) = some 4 by kernel_rfl)) ?_
          conv => arg 8; simp only [Act.put, List.setIfInBounds_toArray, List.set_cons_zero, List.set_cons_succ]
          refine rg_take 1 (d := (some 60)) (v := .pointer (some ⟨w.heap.size, 10, none⟩)) (by decide) rfl rfl (by kernel_rfl) (by kernel_rfl) (by kernel_rfl) (fun _ _ _ h => h) rfl (fun W => by go_simp) ?_
          conv => arg 8; simp only [Act.put, List.setIfInBounds_toArray, List.set_cons_zero, List.set_cons_succ]
          refine rg_read 2 (d := (some 61)) (v := .slice (some ad) N bc) (by decide) (by kernel_rfl) (by kernel_rfl) rfl rfl (by kernel_rfl) (by kernel_rfl) (by kernel_rfl) (fun _ _ _ h => h) rfl (fun W hW => by have hc := (fun W hW => HX.out.2.2.1 W (d6.thenN hW)) W hW; go_simp) ?_
          conv => arg 8; simp only [Act.put, List.setIfInBounds_toArray, List.set_cons_zero, List.set_cons_succ]
          refine rg_take 3 (d := (some 62)) (v := .int .i64 q) (by decide) rfl rfl (by kernel_rfl) (by kernel_rfl) (by kernel_rfl) (fun _ _ _ h => h) rfl (fun W => rfl) ?_
          conv => arg 8; simp only [Act.put, List.setIfInBounds_toArray, List.set_cons_zero, List.set_cons_succ]
          refine rg_take 4 (d := (some 63)) (v := .slice (some ad) q bc) (by decide) rfl rfl (by kernel_rfl) (by kernel_rfl) (by kernel_rfl) (fun _ _ _ h => h) rfl (fun W => by go_simp) ?_
          conv => arg 8; simp only [Act.put, List.setIfInBounds_toArray, List.set_cons_zero, List.set_cons_succ]
          refine rg_call 5 (d := (some 64)) (by kernel_rfl) (HC.out.1 w6 _ (HX.out.2.2.2.2.2.1.keepN d6) (HX.out.2.2.2.2.1.thenN d6)) rfl rfl (by kernel_rfl) rfl rfl ?_
          rintro e w7 ⟨rfl, k7⟩
          refine ⟨_, rfl, k7, ?_⟩
          conv => arg 8; simp only [Act.put, List.setIfInBounds_toArray, List.set_cons_zero, List.set_cons_succ]
          refine rg_take 6 (d := (some 65)) (v := .bool false) (by decide) rfl rfl (by kernel_rfl) (by kernel_rfl) (by kernel_rfl) (fun _ _ _ h => h) rfl (fun W => rfl) ?_
          conv => arg 8; simp only [Act.put, List.setIfInBounds_toArray, List.set_cons_zero, List.set_cons_succ]
          refine rg_take 7 (d := (some 66)) (v := .bool false) (by decide) rfl rfl (by kernel_rfl) (by kernel_rfl) (by kernel_rfl) (fun _ _ _ h => h) rfl (fun W => rfl) ?_
          conv => arg 8; simp only [Act.put, List.setIfInBounds_toArray, List.set_cons_zero, List.set_cons_succ]
          refine rg_read 8 (d := (some 67)) (v := .agg #[n64 xt, n64 xn, n64 xf, .slice dA xl dc]) (by decide) (by kernel_rfl) (by kernel_rfl) rfl rfl (by kernel_rfl) (by kernel_rfl) (by kernel_rfl) (fun _ _ _ h => h) rfl (fun W hW => by exact run_load_op (HX.out.2.1 W ((d6.thenN k7).thenN hW)) rfl Try.underlying37 rfl (show (Try.prog.info? 37).map (·.size) = some 4 by kernel_rfl)) ?_
          conv => arg 8; simp only [Act.put, List.setIfInBounds_toArray, List.set_cons_zero, List.set_cons_succ]
          refine rg_call 9 (d := (some 68)) (by kernel_rfl) (HC.out.2 w7 _ (HX.out.2.2.2.2.2.1.keepN (d6.thenN k7))) rfl rfl (by kernel_rfl) rfl rfl ?_
          rintro e w8 ⟨rfl, k8⟩
          refine ⟨_, rfl, k8, ?_⟩
          conv => arg 8; simp only [Act.put, List.setIfInBounds_toArray, List.set_cons_zero, List.set_cons_succ]
          refine rg_take 10 (d := (some 69)) (v := .bool false) (by decide) rfl rfl (by kernel_rfl) (by kernel_rfl) (by kernel_rfl) (fun _ _ _ h => h) rfl (fun W => rfl) ?_
          conv => arg 8; simp only [Act.put, List.setIfInBounds_toArray, List.set_cons_zero, List.set_cons_succ]
          refine rg_take 11 (d := (some 70)) (v := .bool false) (by decide) rfl rfl (by kernel_rfl) (by kernel_rfl) (by kernel_rfl) (fun _ _ _ h => h) rfl (fun W => rfl) ?_
          conv => arg 8; simp only [Act.put, List.setIfInBounds_toArray, List.set_cons_zero, List.set_cons_succ]
          refine rg_done (by kernel_rfl) ?_
          have HF := Lib.hid (HX.out.2.2.2.2.2.2.thenN (HA.out.2.thenN ((d6.thenN k7).thenN k8)))
          go_wp2_with fail
          go_roundw
          case rel => exact ⟨q + 1, by omega, by go_num, by rw [HQ.out, HA.out.1]; rfl, HF.out⟩
          case measure => exact meas_up hlt
    · obtain rfl : q = N := by omega
      have HRR := Lib.hid (R4.out.2.2.2 HE.out.1 HE.out.2.1 HE.out.2.2.1 HE.out.2.2.2 T1.out T2.out T3.out T4.out T5.out (by rw [HQ.out]; exact blksB_out _ _ (by rw [HB.out.1]; omega)))
      have HF := Lib.hid (HV.out.1.thenN kr)
      clear kr
      go_wp2_with fail
      go_ret
      exact ⟨by rw [HRR.out]; rfl, HF.out⟩
end Go.Proofs.Yteokkpmndfekoaa
