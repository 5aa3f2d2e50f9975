/- the document's Good. -/
import Derived.Test.YteokkpmndfekoaaFB
import Derived.Test.YteokkpmndfekoaaBY
namespace Go.Proofs.Yteokkpmndfekoaa
open Go Go.RowKit Go.ChangeShapes Go.WideShapes Go.ChangeAt
set_option maxRecDepth 100000

def ends (b : Bdl) : List Nat := [b.e0, b.e1, b.e2, b.e3, b.e4, b.e5]
theorem good_no {b : Bdl} {r : Bool} (h : good b = r) : (¬ (b.fl ≤ 7) → r = false) ∧ (¬ (b.ti ≤ 281474976710655) → r = false) ∧ (¬ (b.sq ≤ 281474976710655) → r = false) ∧ (¬ (b.li ≤ 281474976710655) → r = false) ∧ (¬ (b.bl.length ≤ 8) → r = false) ∧ (¬ (b.pl.length ≤ 512) → r = false) ∧ (∀ z ∈ ends b, ¬ (z ≤ 281474976710655) → r = false) ∧ (blksB b.bl 0 = false → r = false) := by
  have hf : ∀ {P : Prop}, (good b = true → P) → (¬ P → r = false) := fun {P} i hn => by
    rcases r with _ | _
    · rfl
    · exact absurd (i h) hn
  refine ⟨hf fun hg => ((good_iff b).1 hg).1, hf fun hg => ((good_iff b).1 hg).2.1 _ (by simp [nine]), hf fun hg => ((good_iff b).1 hg).2.1 _ (by simp [nine]), hf fun hg => ((good_iff b).1 hg).2.1 _ (by simp [nine]), hf fun hg => ((good_iff b).1 hg).2.2.1, hf fun hg => ((good_iff b).1 hg).2.2.2.1, fun z hz => hf fun hg => ((good_iff b).1 hg).2.1 z ?_, fun e => hf (fun hg => ((good_iff b).1 hg).2.2.2.2) (by rw [e]; simp)⟩
  simp only [ends, List.mem_cons, List.not_mem_nil, or_false] at hz
  simp only [nine, List.mem_cons, List.not_mem_nil, or_false]
  rcases hz with hz | hz | hz | hz | hz | hz <;> simp [hz]
theorem good_yes {b : Bdl} {r : Bool} (h : good b = r) (h1 : b.fl ≤ 7) (h2 : b.ti ≤ 281474976710655) (h3 : b.sq ≤ 281474976710655) (h4 : b.li ≤ 281474976710655) (h5 : b.bl.length ≤ 8) (h6 : b.pl.length ≤ 512) (h7 : ∀ z ∈ ends b, z ≤ 281474976710655) (h8 : blksB b.bl 0 = true) : r = true := by
  rw [← h]
  refine (good_iff b).2 ⟨h1, fun z hz => ?_, h5, h6, h8⟩
  simp only [nine, List.mem_cons, List.not_mem_nil, or_false] at hz
  rcases hz with rfl | rfl | rfl | rfl | rfl | rfl | rfl | rfl | rfl
  all_goals first | assumption | exact h7 _ (by simp [ends])
theorem ends_at {w : World} {g : Nat} {b : Bdl} {bv pv : Value} (h : CellsAt w g [n64 b.fl, n64 b.e0, n64 b.e1, n64 b.e2, n64 b.e3, n64 b.e4, n64 b.e5, n64 b.ti, n64 b.sq, n64 b.li, bv, pv]) (q : Nat) (hq : q < (ends b).length) : w.cell? ⟨g, 1 + q, none⟩ = some (n64 ((ends b)[q])) := by
  have hq6 : q < 6 := hq
  rcases (show q = 0 ∨ q = 1 ∨ q = 2 ∨ q = 3 ∨ q = 4 ∨ q = 5 by omega) with rfl | rfl | rfl | rfl | rfl | rfl
  · exact h.at_ 1 rfl
  · exact h.at_ 2 rfl
  · exact h.at_ 3 rfl
  · exact h.at_ 4 rfl
  · exact h.at_ 5 rfl
  · exact h.at_ 6 rfl
set_option maxHeartbeats 12800000 in
theorem rgood_c {w : World} {bv pv : Value} {b : Bdl} (h : RdBd w bv pv b) (hsz : bdSize b ≤ 10000000) : Calls Try.prog 62 #[bdV b bv pv] w fun e w' => e = .returned (.bool (good b)) ∧ KpN w w' := by
  obtain ⟨hbl, hpl, hda⟩ := bdSize_len b
  obtain ⟨hok, hb, hp⟩ := h
  obtain ⟨bA, bc, rfl, hbc⟩ := hb.form
  obtain ⟨pA, pc, rfl, -⟩ := hp.form
  obtain ⟨r, hr⟩ : ∃ r, good b = r := ⟨_, rfl⟩
  obtain ⟨r1, r2, r3, r4, r5, r6, r7, r8⟩ := good_no hr
  have ry := fun a1 a2 a3 a4 a5 a6 a7 a8 => good_yes hr a1 a2 a3 a4 a5 a6 a7 a8
  rw [hr]
  obtain ⟨w1, hw1⟩ : ∃ w1, w.alloc (.cells #[n64 b.fl, n64 b.e0, n64 b.e1, n64 b.e2, n64 b.e3, n64 b.e4, n64 b.e5, n64 b.ti, n64 b.sq, n64 b.li, .slice bA b.bl.length bc, .slice pA b.pl.length pc] 29) = w1 := ⟨_, rfl⟩
  have k1 : KpN w w1 := by rw [← hw1]; exact (Kp.refl _ w).alloc _
  have hB : CellsAt w1 w.heap.size [n64 b.fl, n64 b.e0, n64 b.e1, n64 b.e2, n64 b.e3, n64 b.e4, n64 b.e5, n64 b.ti, n64 b.sq, n64 b.li, .slice bA b.bl.length bc, .slice pA b.pl.length pc] := by rw [← hw1]; exact CellsAt.new w [n64 b.fl, n64 b.e0, n64 b.e1, n64 b.e2, n64 b.e3, n64 b.e4, n64 b.e5, n64 b.ti, n64 b.sq, n64 b.li, .slice bA b.bl.length bc, .slice pA b.pl.length pc] 29
  have hz1 : w1.heap.size = w.heap.size + 1 := by rw [← hw1]; simp
  have hkE : ∀ W, KpN w1 W → ∀ q (hq : q < (ends b).length), W.cell? ⟨w.heap.size, 1 + q, none⟩ = some (n64 ((ends b)[q])) := fun W k => ends_at (hB.keep (by omega) k (fun x => x))
  obtain ⟨es, hes⟩ : ∃ es, ends b = es := ⟨_, rfl⟩
  have he6 : es.length = 6 := by rw [← hes]; rfl
  rw [hes] at r7 ry
  have hkE2 : ∀ W, KpN w1 W → ∀ q (hq : q < es.length), W.cell? ⟨w.heap.size, 1 + q, none⟩ = some (n64 es[q]) := by
    subst hes
    exact hkE
  clear hkE hes
  obtain ⟨fl, e0, e1, e2, e3, e4, e5, ti, sq, li, l, pl⟩ := b
  dsimp only at hb hp hbc hbl hpl hda r1 r2 r3 r4 r5 r6 r7 r8 ry hw1 hB ⊢
  obtain ⟨N, hN⟩ : ∃ n, l.length = n := ⟨_, rfl⟩
  obtain ⟨M, hM⟩ : ∃ m, pl.length = m := ⟨_, rfl⟩
  rw [hN] at hb hbc hbl r5 ry hw1 hB ⊢
  rw [hM] at hpl r6 ry hw1 hB ⊢
  have hnb : N ≤ 2500000 := by omega
  have hmb : M ≤ 10000000 := by omega
  have b0 := hB.at_ 0 rfl
  have b7 := hB.at_ 7 rfl
  have b8 := hB.at_ 8 rfl
  have b9 := hB.at_ 9 rfl
  have b10 := hB.at_ 10 rfl
  have b11 := hB.at_ 11 rfl
  have hkeep : ∀ W, KpN w1 W → CellsAt W w.heap.size [n64 fl, n64 e0, n64 e1, n64 e2, n64 e3, n64 e4, n64 e5, n64 ti, n64 sq, n64 li, .slice bA N bc, .slice pA M pc] := fun W k => hB.keep (by omega) k (fun x => x)
  have HH := Lib.hid (And.intro hw1 (And.intro k1 (And.intro hkeep (And.intro hz1 hkE2))))
  have HB := Lib.hid (And.intro hN (And.intro hb (And.intro hda hsz)))
  have R := Lib.hid (And.intro r1 (And.intro r2 (And.intro r3 (And.intro r4 (And.intro r5 (And.intro r6 (And.intro r7 (And.intro r8 ry))))))))
  have HE := Lib.hid he6
  clear hw1 k1 hB hz1 hkeep hb hp hN hM hda hsz hok hr r1 r2 r3 r4 r5 r6 r7 r8 ry hkE2 he6
  go_enter Try.func62, Try.ntmps62
  by_cases t : fl ≤ 7
  rotate_left 1
  · have t' : (7 : Int) < (fl : Int) := by omega
    have HRR := Lib.hid (R.out.1 t)
    clear t
    go_wp2_with ((with_reducible show wpList _ _ _ _ _ (World.alloc w _)); rw [HH.out.1])
    go_ret
    exact ⟨by rw [HRR.out]; rfl, HH.out.2.1⟩
  have t1' : decide ((7 : Int) < (fl : Int)) = false := by simp; omega
  have T1 := Lib.hid t
  clear t
  by_cases t : ti ≤ 281474976710655
  rotate_left 1
  · have t' : (281474976710655 : Int) < (ti : Int) := by omega
    have HRR := Lib.hid (R.out.2.1 t)
    clear t
    go_wp2_with ((with_reducible show wpList _ _ _ _ _ (World.alloc w _)); rw [HH.out.1])
    go_ret
    exact ⟨by rw [HRR.out]; rfl, HH.out.2.1⟩
  have t2' : decide ((281474976710655 : Int) < (ti : Int)) = false := by simp; omega
  have T2 := Lib.hid t
  clear t
  by_cases t : sq ≤ 281474976710655
  rotate_left 1
  · have t' : (281474976710655 : Int) < (sq : Int) := by omega
    have HRR := Lib.hid (R.out.2.2.1 t)
    clear t
    go_wp2_with ((with_reducible show wpList _ _ _ _ _ (World.alloc w _)); rw [HH.out.1])
    go_ret
    exact ⟨by rw [HRR.out]; rfl, HH.out.2.1⟩
  have t3' : decide ((281474976710655 : Int) < (sq : Int)) = false := by simp; omega
  have T3 := Lib.hid t
  clear t
  by_cases t : li ≤ 281474976710655
  rotate_left 1
  · have t' : (281474976710655 : Int) < (li : Int) := by omega
    have HRR := Lib.hid (R.out.2.2.2.1 t)
    clear t
    go_wp2_with ((with_reducible show wpList _ _ _ _ _ (World.alloc w _)); rw [HH.out.1])
    go_ret
    exact ⟨by rw [HRR.out]; rfl, HH.out.2.1⟩
  have t4' : decide ((281474976710655 : Int) < (li : Int)) = false := by simp; omega
  have T4 := Lib.hid t
  clear t
  by_cases t : N ≤ 8
  rotate_left 1
  · have t' : (8 : Int) < (N : Int) := by omega
    have HRR := Lib.hid (R.out.2.2.2.2.1 t)
    clear t
    go_wp2_with ((with_reducible show wpList _ _ _ _ _ (World.alloc w _)); rw [HH.out.1])
    go_ret
    exact ⟨by rw [HRR.out]; rfl, HH.out.2.1⟩
  have t5' : decide ((8 : Int) < (N : Int)) = false := by simp; omega
  have T5 := Lib.hid t
  clear t
  by_cases t : M ≤ 512
  rotate_left 1
  · have t' : (512 : Int) < (M : Int) := by omega
    have HRR := Lib.hid (R.out.2.2.2.2.2.1 t)
    clear t
    go_wp2_with ((with_reducible show wpList _ _ _ _ _ (World.alloc w _)); rw [HH.out.1])
    go_ret
    exact ⟨by rw [HRR.out]; rfl, HH.out.2.1⟩
  have t6' : decide ((512 : Int) < (M : Int)) = false := by simp; omega
  have T6 := Lib.hid t
  clear t
  go_wp2_with ((with_reducible show wpList _ _ _ _ _ (World.alloc w _)); rw [HH.out.1])
  clear t1' t2' t3' t4' t5' t6' b0 b7 b8 b9 b10 b11
  go_loopw [3] (fun i wr => ∃ q : Nat, q ≤ 6 ∧ i = .int .i64 q ∧ (∀ j (hj : j < es.length), j < q → es[j] ≤ 281474976710655) ∧ KpN w1 wr) (fun i _ => 6 - (intOf i).toNat)
  case atStart => exact ⟨0, Nat.zero_le _, rfl, fun j _ hj => by omega, Kp.refl _ _⟩
  case round =>
    obtain ⟨q, hq, rfl, hno, kr⟩ := hrel
    have HN := Lib.hid hno
    clear hno
    by_cases hlt : q < 6
    · have hql : q < es.length := by rw [HE.out]; exact hlt
      have c := HH.out.2.2.2.2 wr kr q hql
      have hbad : ¬ es[q] ≤ 281474976710655 → r = false := R.out.2.2.2.2.2.2.1 es[q] (List.getElem_mem hql)
      have hgo : es[q] ≤ 281474976710655 → ∀ j (hj : j < es.length), j < q + 1 → es[j] ≤ 281474976710655 := fun e j hj hjq => by
        by_cases hje : j = q
        · subst hje; exact e
        · exact HN.out j hj (by omega)
      generalize es[q] = z at *
      have HG := Lib.hid (And.intro hbad (And.intro hgo kr))
      clear hbad hgo kr
      by_cases t : z ≤ 281474976710655
      · have t' : decide ((281474976710655 : Int) < (z : Int)) = false := by simp; omega
        have HD := Lib.hid (HG.out.2.1 t)
        clear t
        go_wp2_with fail
        go_roundw
        case rel => exact ⟨q + 1, by omega, by go_num, HD.out, HG.out.2.2⟩
        case measure => exact meas_up hlt
      · have t' : (281474976710655 : Int) < (z : Int) := by omega
        have HRR := Lib.hid (HG.out.1 t)
        have HF := Lib.hid (HH.out.2.1.thenN HG.out.2.2)
        clear t
        go_wp2_with fail
        go_ret
        exact ⟨by rw [HRR.out]; rfl, HF.out⟩
    · obtain rfl : q = 6 := by omega
      rw [show ((6 : Nat) : Int) = 6 from rfl]
      have HE6 := Lib.hid (show ∀ z ∈ es, z ≤ 281474976710655 from fun z hz => by
        obtain ⟨j, hj, rfl⟩ := List.mem_iff_getElem.1 hz
        exact HN.out j hj (by have := HE.out; omega))
      obtain ⟨wb, hwb⟩ : ∃ wb, wr = wb := ⟨_, rfl⟩
      rw [hwb] at kr ⊢
      have HKB := Lib.hid kr
      clear hwb kr
      go_wp2_with fail
      go_loopw [4] (fun i wr => ∃ q : Nat, q ≤ N ∧ i = .int .i64 q ∧ blksB l 0 = blksB l q ∧ KpN w1 wr) (fun i _ => N - (intOf i).toNat)
      case atStart => exact ⟨0, Nat.zero_le _, rfl, rfl, HKB.out⟩
      case round =>
        obtain ⟨q, hq, rfl, hbq, kr⟩ := hrel
        have HQ := Lib.hid hbq
        have b10 := (HH.out.2.2.1 wr kr).at_ 10 rfl
        clear hbq
        by_cases hlt : q < N
        · have hql : q < l.length := by rw [HB.out.1]; exact hlt
          obtain ⟨ad, cs, rfl, -, hrow0, ⟨⟨dw, rfl, hdw⟩, hxo⟩⟩ := HB.out.2.1.row q hql
          have kwr := HH.out.2.1.thenN kr
          have hrow := hrow0.keepN kwr
          have hdr := hdw.keepN kwr
          have hda := HB.out.2.2.1 l[q] (List.getElem_mem hql)
          have hat := blksB_at l q hql
          have htk : SlAt w 4 BlkAt (.slice (some ad) q bc) (l.take q) := by
            have := HB.out.2.1
            exact this.takeS q (by omega)
          obtain ⟨x, hx⟩ : ∃ x, l[q] = x := ⟨_, rfl⟩
          rw [hx] at hrow hdr hda hat hxo
          have hhc := fun (W : World) (v : Value) (hv : RdB W v x.da) (k : KpN w W) => headed_c (t := x.ty) (n := x.nu) (f := x.fl) hv (SlAt.keep htk k (fun x y => x.keep y)) (by simp; have := HB.out.1; omega)
          have hhd := fun (W : World) (v : Value) (hv : RdB W v x.da) => rholds_c (k := x.ty) hv (by have := HB.out.2.2.2; omega)
          have hbb : blkB x (l.take q) = (decide (headed x.ty x.nu x.fl (l.take q) = 0) && (decide (x.da.length ≤ 64) && holds x.ty x.da)) := rfl
          obtain ⟨H, hH⟩ : ∃ z, headed x.ty x.nu x.fl (l.take q) = z := ⟨_, rfl⟩
          obtain ⟨F2, hF2⟩ : ∃ z, holds x.ty x.da = z := ⟨_, rfl⟩
          rw [hbb, hH, hF2] at hat
          rw [hH] at hhc
          rw [hF2] at hhd
          obtain ⟨xt, xn, xf, xd⟩ := x
          dsimp only at hrow hdr hda hhc hhd hat
          obtain ⟨dA, dc, rfl, -⟩ := hdr.form
          obtain ⟨xl, hxl⟩ : ∃ x, xd.length = x := ⟨_, rfl⟩
          rw [hxl] at hrow hdr hda hat
          have c0 := hrow.c0
          have c1 := hrow.fld 0 rfl
          have c2 := hrow.fld 1 rfl
          have c3 := hrow.fld 2 rfl
          obtain ⟨w5, hw5⟩ : ∃ w5, wr.alloc (.cells #[n64 xt, n64 xn, n64 xf, .slice dA xl dc] 40) = w5 := ⟨_, rfl⟩
          have k5 : KpN wr w5 := by rw [← hw5]; exact (Kp.refl _ _).alloc _
          have hX : CellsAt w5 wr.heap.size [n64 xt, n64 xn, n64 xf, .slice dA xl dc] := by rw [← hw5]; exact CellsAt.new wr [n64 xt, n64 xn, n64 xf, .slice dA xl dc] 40
          have hz5 : w5.heap.size = wr.heap.size + 1 := by rw [← hw5]; simp
          have hrowW : ∀ W, KpN w5 W → CellsAt W wr.heap.size [n64 xt, n64 xn, n64 xf, .slice dA xl dc] := fun W k => hX.keep (by omega) k (fun x => x)
          have hcellW : ∀ W, KpN w5 W → W.cell? ⟨w.heap.size, 10, none⟩ = some (.slice (some ad) N bc) := fun W k => (HH.out.2.2.1 W (kr.thenN (k5.thenN k))).at_ 10 rfl
          have HX := Lib.hid (And.intro hw5 (And.intro hrowW (And.intro hcellW (And.intro (kwr.thenN k5) (And.intro (hdr.keepN k5) (kr.thenN k5))))))
          have HC := Lib.hid (And.intro hhc hhd)
          have HA := Lib.hid hat
          have hqb : q ≤ bc := by omega
          clear hrow hrow0 hdr hdw hda hxo hx htk hhc hhd hbb hH hF2 hat hw5 k5 hX hrowW hcellW kwr hxl kr hz5
          by_cases hH0 : H = 0
          · subst hH0
            by_cases hl64 : xl ≤ 64
            · have hl64' : decide ((64 : Int) < (xl : Int)) = false := by simp; omega
              rcases F2 with _ | _
              · skip
                go_wp2_with fail
                rw [show wr.alloc (.cells #[.int .u64 (xt : Int), .int .u64 (xn : Int), .int .u64 (xf : Int), .slice dA xl dc] 40) = w5 from HX.out.1]
                refine rg_begin 21 (fun _ => False) (by kernel_rfl) (fun w6 d6 => ?_)
                refine rg_read 0 (d := (some 59)) (v := .agg #[n64 xt, n64 xn, n64 xf, .slice dA xl dc]) (by decide) (by kernel_rfl) (by kernel_rfl) rfl rfl (by kernel_rfl) (by kernel_rfl) (by kernel_rfl) (fun _ _ _ h => h) rfl (fun W hW => by exact run_load_op (HX.out.2.1 W (d6.thenN hW)).1 rfl Try.underlying40 rfl (show (Try.prog.info? 40).map (·.size) = some 4 by kernel_rfl)) ?_
                conv => arg 8; simp only [Act.put, List.setIfInBounds_toArray, List.set_cons_zero, List.set_cons_succ]
                refine rg_take 1 (d := (some 60)) (v := .pointer (some ⟨w.heap.size, 10, none⟩)) (by decide) rfl rfl (by kernel_rfl) (by kernel_rfl) (by kernel_rfl) (fun _ _ _ h => h) rfl (fun W => by go_simp) ?_
                conv => arg 8; simp only [Act.put, List.setIfInBounds_toArray, List.set_cons_zero, List.set_cons_succ]
                refine rg_read 2 (d := (some 61)) (v := .slice (some ad) N bc) (by decide) (by kernel_rfl) (by kernel_rfl) rfl rfl (by kernel_rfl) (by kernel_rfl) (by kernel_rfl) (fun _ _ _ h => h) rfl (fun W hW => by have hc := (fun W hW => HX.out.2.2.1 W (d6.thenN hW)) W hW; go_simp) ?_
                conv => arg 8; simp only [Act.put, List.setIfInBounds_toArray, List.set_cons_zero, List.set_cons_succ]
                refine rg_take 3 (d := (some 62)) (v := .int .i64 q) (by decide) rfl rfl (by kernel_rfl) (by kernel_rfl) (by kernel_rfl) (fun _ _ _ h => h) rfl (fun W => rfl) ?_
                conv => arg 8; simp only [Act.put, List.setIfInBounds_toArray, List.set_cons_zero, List.set_cons_succ]
                refine rg_take 4 (d := (some 63)) (v := .slice (some ad) q bc) (by decide) rfl rfl (by kernel_rfl) (by kernel_rfl) (by kernel_rfl) (fun _ _ _ h => h) rfl (fun W => by go_simp) ?_
                conv => arg 8; simp only [Act.put, List.setIfInBounds_toArray, List.set_cons_zero, List.set_cons_succ]
                refine rg_call 5 (d := (some 64)) (by kernel_rfl) (HC.out.1 w6 _ (HX.out.2.2.2.2.1.keepN d6) (HX.out.2.2.2.1.thenN d6)) rfl rfl (by kernel_rfl) rfl rfl ?_
                rintro e w7 ⟨rfl, k7⟩
                refine ⟨_, rfl, k7, ?_⟩
                conv => arg 8; simp only [Act.put, List.setIfInBounds_toArray, List.set_cons_zero, List.set_cons_succ]
                refine rg_take 6 (d := (some 65)) (v := .bool false) (by decide) rfl rfl (by kernel_rfl) (by kernel_rfl) (by kernel_rfl) (fun _ _ _ h => h) rfl (fun W => by go_simp) ?_
                conv => arg 8; simp only [Act.put, List.setIfInBounds_toArray, List.set_cons_zero, List.set_cons_succ]
                refine rg_take 7 (d := (some 66)) (v := .bool false) (by decide) rfl rfl (by kernel_rfl) (by kernel_rfl) (by kernel_rfl) (fun _ _ _ h => h) rfl (fun W => rfl) ?_
                conv => arg 8; simp only [Act.put, List.setIfInBounds_toArray, List.set_cons_zero, List.set_cons_succ]
                refine rg_take 8 (d := (some 67)) (v := .pointer (some ⟨wr.heap.size, 3, none⟩)) (by decide) rfl rfl (by kernel_rfl) (by kernel_rfl) (by kernel_rfl) (fun _ _ _ h => h) rfl (fun W => by go_simp) ?_
                conv => arg 8; simp only [Act.put, List.setIfInBounds_toArray, List.set_cons_zero, List.set_cons_succ]
                refine rg_read 9 (d := (some 68)) (v := .slice dA xl dc) (by decide) (by kernel_rfl) (by kernel_rfl) rfl rfl (by kernel_rfl) (by kernel_rfl) (by kernel_rfl) (fun _ _ _ h => h) rfl (fun W hW => by have hc := (fun W hW => (HX.out.2.1 W ((d6.thenN k7).thenN hW)).at_ 3 rfl) W hW; go_simp) ?_
                conv => arg 8; simp only [Act.put, List.setIfInBounds_toArray, List.set_cons_zero, List.set_cons_succ]
                refine rg_take 10 (d := (some 69)) (v := .int .i64 xl) (by decide) rfl rfl (by kernel_rfl) (by kernel_rfl) (by kernel_rfl) (fun _ _ _ h => h) rfl (fun W => by go_simp) ?_
                conv => arg 8; simp only [Act.put, List.setIfInBounds_toArray, List.set_cons_zero, List.set_cons_succ]
                refine rg_take 11 (d := (some 70)) (v := .bool false) (by decide) rfl rfl (by kernel_rfl) (by kernel_rfl) (by kernel_rfl) (fun _ _ _ h => h) rfl (fun W => by go_simp) ?_
                conv => arg 8; simp only [Act.put, List.setIfInBounds_toArray, List.set_cons_zero, List.set_cons_succ]
                refine rg_take 12 (d := (some 71)) (v := .bool false) (by decide) rfl rfl (by kernel_rfl) (by kernel_rfl) (by kernel_rfl) (fun _ _ _ h => h) rfl (fun W => rfl) ?_
                conv => arg 8; simp only [Act.put, List.setIfInBounds_toArray, List.set_cons_zero, List.set_cons_succ]
                refine rg_take 13 (d := (some 72)) (v := .bool false) (by decide) rfl rfl (by kernel_rfl) (by kernel_rfl) (by kernel_rfl) (fun _ _ _ h => h) rfl (fun W => rfl) ?_
                conv => arg 8; simp only [Act.put, List.setIfInBounds_toArray, List.set_cons_zero, List.set_cons_succ]
                refine rg_take 14 (d := (some 73)) (v := .pointer (some ⟨wr.heap.size, 0, none⟩)) (by decide) rfl rfl (by kernel_rfl) (by kernel_rfl) (by kernel_rfl) (fun _ _ _ h => h) rfl (fun W => by go_simp) ?_
                conv => arg 8; simp only [Act.put, List.setIfInBounds_toArray, List.set_cons_zero, List.set_cons_succ]
                refine rg_read 15 (d := (some 74)) (v := n64 xt) (by decide) (by kernel_rfl) (by kernel_rfl) rfl rfl (by kernel_rfl) (by kernel_rfl) (by kernel_rfl) (fun _ _ _ h => h) rfl (fun W hW => by have hc := (fun W hW => (HX.out.2.1 W ((d6.thenN k7).thenN hW)).at_ 0 rfl) W hW; go_simp) ?_
                conv => arg 8; simp only [Act.put, List.setIfInBounds_toArray, List.set_cons_zero, List.set_cons_succ]
                refine rg_take 16 (d := (some 75)) (v := .pointer (some ⟨wr.heap.size, 3, none⟩)) (by decide) rfl rfl (by kernel_rfl) (by kernel_rfl) (by kernel_rfl) (fun _ _ _ h => h) rfl (fun W => by go_simp) ?_
                conv => arg 8; simp only [Act.put, List.setIfInBounds_toArray, List.set_cons_zero, List.set_cons_succ]
                refine rg_read 17 (d := (some 76)) (v := .slice dA xl dc) (by decide) (by kernel_rfl) (by kernel_rfl) rfl rfl (by kernel_rfl) (by kernel_rfl) (by kernel_rfl) (fun _ _ _ h => h) rfl (fun W hW => by have hc := (fun W hW => (HX.out.2.1 W ((d6.thenN k7).thenN hW)).at_ 3 rfl) W hW; go_simp) ?_
                conv => arg 8; simp only [Act.put, List.setIfInBounds_toArray, List.set_cons_zero, List.set_cons_succ]
                refine rg_call 18 (d := (some 77)) (by kernel_rfl) (HC.out.2 w7 _ (HX.out.2.2.2.2.1.keepN (d6.thenN k7))) rfl rfl (by kernel_rfl) rfl rfl ?_
                rintro e w8 ⟨rfl, k8⟩
                refine ⟨_, rfl, k8, ?_⟩
                conv => arg 8; simp only [Act.put, List.setIfInBounds_toArray, List.set_cons_zero, List.set_cons_succ]
                refine rg_take 19 (d := (some 78)) (v := .bool true) (by decide) rfl rfl (by kernel_rfl) (by kernel_rfl) (by kernel_rfl) (fun _ _ _ h => h) rfl (fun W => rfl) ?_
                conv => arg 8; simp only [Act.put, List.setIfInBounds_toArray, List.set_cons_zero, List.set_cons_succ]
                refine rg_take 20 (d := (some 79)) (v := .bool true) (by decide) rfl rfl (by kernel_rfl) (by kernel_rfl) (by kernel_rfl) (fun _ _ _ h => h) rfl (fun W => rfl) ?_
                conv => arg 8; simp only [Act.put, List.setIfInBounds_toArray, List.set_cons_zero, List.set_cons_succ]
                refine rg_done (by kernel_rfl) ?_
                have HF := Lib.hid (HX.out.2.2.2.1.thenN ((d6.thenN k7).thenN k8))
                have HRR := Lib.hid (R.out.2.2.2.2.2.2.2.1 (by rw [HQ.out, HA.out]; simp))
                go_wp2_with fail
                go_ret
                exact ⟨by rw [HRR.out]; rfl, HF.out⟩
              · skip
                go_wp2_with fail
                rw [show wr.alloc (.cells #[.int .u64 (xt : Int), .int .u64 (xn : Int), .int .u64 (xf : Int), .slice dA xl dc] 40) = w5 from HX.out.1]
                refine rg_begin 21 (fun _ => False) (by kernel_rfl) (fun w6 d6 => ?_)
                refine rg_read 0 (d := (some 59)) (v := .agg #[n64 xt, n64 xn, n64 xf, .slice dA xl dc]) (by decide) (by kernel_rfl) (by kernel_rfl) rfl rfl (by kernel_rfl) (by kernel_rfl) (by kernel_rfl) (fun _ _ _ h => h) rfl (fun W hW => by exact run_load_op (HX.out.2.1 W (d6.thenN hW)).1 rfl Try.underlying40 rfl (show (Try.prog.info? 40).map (·.size) = some 4 by kernel_rfl)) ?_
                conv => arg 8; simp only [Act.put, List.setIfInBounds_toArray, List.set_cons_zero, List.set_cons_succ]
                refine rg_take 1 (d := (some 60)) (v := .pointer (some ⟨w.heap.size, 10, none⟩)) (by decide) rfl rfl (by kernel_rfl) (by kernel_rfl) (by kernel_rfl) (fun _ _ _ h => h) rfl (fun W => by go_simp) ?_
                conv => arg 8; simp only [Act.put, List.setIfInBounds_toArray, List.set_cons_zero, List.set_cons_succ]
                refine rg_read 2 (d := (some 61)) (v := .slice (some ad) N bc) (by decide) (by kernel_rfl) (by kernel_rfl) rfl rfl (by kernel_rfl) (by kernel_rfl) (by kernel_rfl) (fun _ _ _ h => h) rfl (fun W hW => by have hc := (fun W hW => HX.out.2.2.1 W (d6.thenN hW)) W hW; go_simp) ?_
                conv => arg 8; simp only [Act.put, List.setIfInBounds_toArray, List.set_cons_zero, List.set_cons_succ]
                refine rg_take 3 (d := (some 62)) (v := .int .i64 q) (by decide) rfl rfl (by kernel_rfl) (by kernel_rfl) (by kernel_rfl) (fun _ _ _ h => h) rfl (fun W => rfl) ?_
                conv => arg 8; simp only [Act.put, List.setIfInBounds_toArray, List.set_cons_zero, List.set_cons_succ]
                refine rg_take 4 (d := (some 63)) (v := .slice (some ad) q bc) (by decide) rfl rfl (by kernel_rfl) (by kernel_rfl) (by kernel_rfl) (fun _ _ _ h => h) rfl (fun W => by go_simp) ?_
                conv => arg 8; simp only [Act.put, List.setIfInBounds_toArray, List.set_cons_zero, List.set_cons_succ]
                refine rg_call 5 (d := (some 64)) (by kernel_rfl) (HC.out.1 w6 _ (HX.out.2.2.2.2.1.keepN d6) (HX.out.2.2.2.1.thenN d6)) rfl rfl (by kernel_rfl) rfl rfl ?_
                rintro e w7 ⟨rfl, k7⟩
                refine ⟨_, rfl, k7, ?_⟩
                conv => arg 8; simp only [Act.put, List.setIfInBounds_toArray, List.set_cons_zero, List.set_cons_succ]
                refine rg_take 6 (d := (some 65)) (v := .bool false) (by decide) rfl rfl (by kernel_rfl) (by kernel_rfl) (by kernel_rfl) (fun _ _ _ h => h) rfl (fun W => by go_simp) ?_
                conv => arg 8; simp only [Act.put, List.setIfInBounds_toArray, List.set_cons_zero, List.set_cons_succ]
                refine rg_take 7 (d := (some 66)) (v := .bool false) (by decide) rfl rfl (by kernel_rfl) (by kernel_rfl) (by kernel_rfl) (fun _ _ _ h => h) rfl (fun W => rfl) ?_
                conv => arg 8; simp only [Act.put, List.setIfInBounds_toArray, List.set_cons_zero, List.set_cons_succ]
                refine rg_take 8 (d := (some 67)) (v := .pointer (some ⟨wr.heap.size, 3, none⟩)) (by decide) rfl rfl (by kernel_rfl) (by kernel_rfl) (by kernel_rfl) (fun _ _ _ h => h) rfl (fun W => by go_simp) ?_
                conv => arg 8; simp only [Act.put, List.setIfInBounds_toArray, List.set_cons_zero, List.set_cons_succ]
                refine rg_read 9 (d := (some 68)) (v := .slice dA xl dc) (by decide) (by kernel_rfl) (by kernel_rfl) rfl rfl (by kernel_rfl) (by kernel_rfl) (by kernel_rfl) (fun _ _ _ h => h) rfl (fun W hW => by have hc := (fun W hW => (HX.out.2.1 W ((d6.thenN k7).thenN hW)).at_ 3 rfl) W hW; go_simp) ?_
                conv => arg 8; simp only [Act.put, List.setIfInBounds_toArray, List.set_cons_zero, List.set_cons_succ]
                refine rg_take 10 (d := (some 69)) (v := .int .i64 xl) (by decide) rfl rfl (by kernel_rfl) (by kernel_rfl) (by kernel_rfl) (fun _ _ _ h => h) rfl (fun W => by go_simp) ?_
                conv => arg 8; simp only [Act.put, List.setIfInBounds_toArray, List.set_cons_zero, List.set_cons_succ]
                refine rg_take 11 (d := (some 70)) (v := .bool false) (by decide) rfl rfl (by kernel_rfl) (by kernel_rfl) (by kernel_rfl) (fun _ _ _ h => h) rfl (fun W => by go_simp) ?_
                conv => arg 8; simp only [Act.put, List.setIfInBounds_toArray, List.set_cons_zero, List.set_cons_succ]
                refine rg_take 12 (d := (some 71)) (v := .bool false) (by decide) rfl rfl (by kernel_rfl) (by kernel_rfl) (by kernel_rfl) (fun _ _ _ h => h) rfl (fun W => rfl) ?_
                conv => arg 8; simp only [Act.put, List.setIfInBounds_toArray, List.set_cons_zero, List.set_cons_succ]
                refine rg_take 13 (d := (some 72)) (v := .bool false) (by decide) rfl rfl (by kernel_rfl) (by kernel_rfl) (by kernel_rfl) (fun _ _ _ h => h) rfl (fun W => rfl) ?_
                conv => arg 8; simp only [Act.put, List.setIfInBounds_toArray, List.set_cons_zero, List.set_cons_succ]
                refine rg_take 14 (d := (some 73)) (v := .pointer (some ⟨wr.heap.size, 0, none⟩)) (by decide) rfl rfl (by kernel_rfl) (by kernel_rfl) (by kernel_rfl) (fun _ _ _ h => h) rfl (fun W => by go_simp) ?_
                conv => arg 8; simp only [Act.put, List.setIfInBounds_toArray, List.set_cons_zero, List.set_cons_succ]
                refine rg_read 15 (d := (some 74)) (v := n64 xt) (by decide) (by kernel_rfl) (by kernel_rfl) rfl rfl (by kernel_rfl) (by kernel_rfl) (by kernel_rfl) (fun _ _ _ h => h) rfl (fun W hW => by have hc := (fun W hW => (HX.out.2.1 W ((d6.thenN k7).thenN hW)).at_ 0 rfl) W hW; go_simp) ?_
                conv => arg 8; simp only [Act.put, List.setIfInBounds_toArray, List.set_cons_zero, List.set_cons_succ]
                refine rg_take 16 (d := (some 75)) (v := .pointer (some ⟨wr.heap.size, 3, none⟩)) (by decide) rfl rfl (by kernel_rfl) (by kernel_rfl) (by kernel_rfl) (fun _ _ _ h => h) rfl (fun W => by go_simp) ?_
                conv => arg 8; simp only [Act.put, List.setIfInBounds_toArray, List.set_cons_zero, List.set_cons_succ]
                refine rg_read 17 (d := (some 76)) (v := .slice dA xl dc) (by decide) (by kernel_rfl) (by kernel_rfl) rfl rfl (by kernel_rfl) (by kernel_rfl) (by kernel_rfl) (fun _ _ _ h => h) rfl (fun W hW => by have hc := (fun W hW => (HX.out.2.1 W ((d6.thenN k7).thenN hW)).at_ 3 rfl) W hW; go_simp) ?_
                conv => arg 8; simp only [Act.put, List.setIfInBounds_toArray, List.set_cons_zero, List.set_cons_succ]
                refine rg_call 18 (d := (some 77)) (by kernel_rfl) (HC.out.2 w7 _ (HX.out.2.2.2.2.1.keepN (d6.thenN k7))) rfl rfl (by kernel_rfl) rfl rfl ?_
                rintro e w8 ⟨rfl, k8⟩
                refine ⟨_, rfl, k8, ?_⟩
                conv => arg 8; simp only [Act.put, List.setIfInBounds_toArray, List.set_cons_zero, List.set_cons_succ]
                refine rg_take 19 (d := (some 78)) (v := .bool false) (by decide) rfl rfl (by kernel_rfl) (by kernel_rfl) (by kernel_rfl) (fun _ _ _ h => h) rfl (fun W => rfl) ?_
                conv => arg 8; simp only [Act.put, List.setIfInBounds_toArray, List.set_cons_zero, List.set_cons_succ]
                refine rg_take 20 (d := (some 79)) (v := .bool false) (by decide) rfl rfl (by kernel_rfl) (by kernel_rfl) (by kernel_rfl) (fun _ _ _ h => h) rfl (fun W => rfl) ?_
                conv => arg 8; simp only [Act.put, List.setIfInBounds_toArray, List.set_cons_zero, List.set_cons_succ]
                refine rg_done (by kernel_rfl) ?_
                have HF := Lib.hid (HX.out.2.2.2.2.2.thenN ((d6.thenN k7).thenN k8))
                go_wp2_with fail
                go_roundw
                case rel => exact ⟨q + 1, by omega, by go_num, by rw [HQ.out, HA.out]; simp [hl64], HF.out⟩
                case measure => exact meas_up hlt
            · have hl64' : (64 : Int) < (xl : Int) := by omega
              go_wp2_with fail
              rw [show wr.alloc (.cells #[.int .u64 (xt : Int), .int .u64 (xn : Int), .int .u64 (xf : Int), .slice dA xl dc] 40) = w5 from HX.out.1]
              refine rg_begin 21 (fun _ => False) (by kernel_rfl) (fun w6 d6 => ?_)
              refine rg_read 0 (d := (some 59)) (v := .agg #[n64 xt, n64 xn, n64 xf, .slice dA xl dc]) (by decide) (by kernel_rfl) (by kernel_rfl) rfl rfl (by kernel_rfl) (by kernel_rfl) (by kernel_rfl) (fun _ _ _ h => h) rfl (fun W hW => by exact run_load_op (HX.out.2.1 W (d6.thenN hW)).1 rfl Try.underlying40 rfl (show (Try.prog.info? 40).map (·.size) = some 4 by kernel_rfl)) ?_
              conv => arg 8; simp only [Act.put, List.setIfInBounds_toArray, List.set_cons_zero, List.set_cons_succ]
              refine rg_take 1 (d := (some 60)) (v := .pointer (some ⟨w.heap.size, 10, none⟩)) (by decide) rfl rfl (by kernel_rfl) (by kernel_rfl) (by kernel_rfl) (fun _ _ _ h => h) rfl (fun W => by go_simp) ?_
              conv => arg 8; simp only [Act.put, List.setIfInBounds_toArray, List.set_cons_zero, List.set_cons_succ]
              refine rg_read 2 (d := (some 61)) (v := .slice (some ad) N bc) (by decide) (by kernel_rfl) (by kernel_rfl) rfl rfl (by kernel_rfl) (by kernel_rfl) (by kernel_rfl) (fun _ _ _ h => h) rfl (fun W hW => by have hc := (fun W hW => HX.out.2.2.1 W (d6.thenN hW)) W hW; go_simp) ?_
              conv => arg 8; simp only [Act.put, List.setIfInBounds_toArray, List.set_cons_zero, List.set_cons_succ]
              refine rg_take 3 (d := (some 62)) (v := .int .i64 q) (by decide) rfl rfl (by kernel_rfl) (by kernel_rfl) (by kernel_rfl) (fun _ _ _ h => h) rfl (fun W => rfl) ?_
              conv => arg 8; simp only [Act.put, List.setIfInBounds_toArray, List.set_cons_zero, List.set_cons_succ]
              refine rg_take 4 (d := (some 63)) (v := .slice (some ad) q bc) (by decide) rfl rfl (by kernel_rfl) (by kernel_rfl) (by kernel_rfl) (fun _ _ _ h => h) rfl (fun W => by go_simp) ?_
              conv => arg 8; simp only [Act.put, List.setIfInBounds_toArray, List.set_cons_zero, List.set_cons_succ]
              refine rg_call 5 (d := (some 64)) (by kernel_rfl) (HC.out.1 w6 _ (HX.out.2.2.2.2.1.keepN d6) (HX.out.2.2.2.1.thenN d6)) rfl rfl (by kernel_rfl) rfl rfl ?_
              rintro e w7 ⟨rfl, k7⟩
              refine ⟨_, rfl, k7, ?_⟩
              conv => arg 8; simp only [Act.put, List.setIfInBounds_toArray, List.set_cons_zero, List.set_cons_succ]
              refine rg_take 6 (d := (some 65)) (v := .bool false) (by decide) rfl rfl (by kernel_rfl) (by kernel_rfl) (by kernel_rfl) (fun _ _ _ h => h) rfl (fun W => by go_simp) ?_
              conv => arg 8; simp only [Act.put, List.setIfInBounds_toArray, List.set_cons_zero, List.set_cons_succ]
              refine rg_take 7 (d := (some 66)) (v := .bool false) (by decide) rfl rfl (by kernel_rfl) (by kernel_rfl) (by kernel_rfl) (fun _ _ _ h => h) rfl (fun W => rfl) ?_
              conv => arg 8; simp only [Act.put, List.setIfInBounds_toArray, List.set_cons_zero, List.set_cons_succ]
              refine rg_take 8 (d := (some 67)) (v := .pointer (some ⟨wr.heap.size, 3, none⟩)) (by decide) rfl rfl (by kernel_rfl) (by kernel_rfl) (by kernel_rfl) (fun _ _ _ h => h) rfl (fun W => by go_simp) ?_
              conv => arg 8; simp only [Act.put, List.setIfInBounds_toArray, List.set_cons_zero, List.set_cons_succ]
              refine rg_read 9 (d := (some 68)) (v := .slice dA xl dc) (by decide) (by kernel_rfl) (by kernel_rfl) rfl rfl (by kernel_rfl) (by kernel_rfl) (by kernel_rfl) (fun _ _ _ h => h) rfl (fun W hW => by have hc := (fun W hW => (HX.out.2.1 W ((d6.thenN k7).thenN hW)).at_ 3 rfl) W hW; go_simp) ?_
              conv => arg 8; simp only [Act.put, List.setIfInBounds_toArray, List.set_cons_zero, List.set_cons_succ]
              refine rg_take 10 (d := (some 69)) (v := .int .i64 xl) (by decide) rfl rfl (by kernel_rfl) (by kernel_rfl) (by kernel_rfl) (fun _ _ _ h => h) rfl (fun W => by go_simp) ?_
              conv => arg 8; simp only [Act.put, List.setIfInBounds_toArray, List.set_cons_zero, List.set_cons_succ]
              refine rg_take 11 (d := (some 70)) (v := .bool true) (by decide) rfl rfl (by kernel_rfl) (by kernel_rfl) (by kernel_rfl) (fun _ _ _ h => h) rfl (fun W => by go_simp) ?_
              conv => arg 8; simp only [Act.put, List.setIfInBounds_toArray, List.set_cons_zero, List.set_cons_succ]
              refine rg_take 12 (d := (some 71)) (v := .bool true) (by decide) rfl rfl (by kernel_rfl) (by kernel_rfl) (by kernel_rfl) (fun _ _ _ h => h) rfl (fun W => rfl) ?_
              conv => arg 8; simp only [Act.put, List.setIfInBounds_toArray, List.set_cons_zero, List.set_cons_succ]
              refine rg_take 13 (d := (some 72)) (v := .bool true) (by decide) rfl rfl (by kernel_rfl) (by kernel_rfl) (by kernel_rfl) (fun _ _ _ h => h) rfl (fun W => rfl) ?_
              conv => arg 8; simp only [Act.put, List.setIfInBounds_toArray, List.set_cons_zero, List.set_cons_succ]
              refine rg_skip 14 (d := (some 73)) (by decide) rfl rfl (by kernel_rfl) (by kernel_rfl) (by kernel_rfl) (fun _ _ _ h => h) rfl ?_
              conv => arg 8; simp only [Act.put, List.setIfInBounds_toArray, List.set_cons_zero, List.set_cons_succ]
              refine rg_skip 15 (d := (some 74)) (by decide) rfl rfl (by kernel_rfl) (by kernel_rfl) (by kernel_rfl) (fun _ _ _ h => h) rfl ?_
              conv => arg 8; simp only [Act.put, List.setIfInBounds_toArray, List.set_cons_zero, List.set_cons_succ]
              refine rg_skip 16 (d := (some 75)) (by decide) rfl rfl (by kernel_rfl) (by kernel_rfl) (by kernel_rfl) (fun _ _ _ h => h) rfl ?_
              conv => arg 8; simp only [Act.put, List.setIfInBounds_toArray, List.set_cons_zero, List.set_cons_succ]
              refine rg_skip 17 (d := (some 76)) (by decide) rfl rfl (by kernel_rfl) (by kernel_rfl) (by kernel_rfl) (fun _ _ _ h => h) rfl ?_
              conv => arg 8; simp only [Act.put, List.setIfInBounds_toArray, List.set_cons_zero, List.set_cons_succ]
              refine rg_skip 18 (d := (some 77)) (by decide) rfl rfl (by kernel_rfl) (by kernel_rfl) (by kernel_rfl) (fun _ _ _ h => h) rfl ?_
              conv => arg 8; simp only [Act.put, List.setIfInBounds_toArray, List.set_cons_zero, List.set_cons_succ]
              refine rg_skip 19 (d := (some 78)) (by decide) rfl rfl (by kernel_rfl) (by kernel_rfl) (by kernel_rfl) (fun _ _ _ h => h) rfl ?_
              conv => arg 8; simp only [Act.put, List.setIfInBounds_toArray, List.set_cons_zero, List.set_cons_succ]
              refine rg_take 20 (d := (some 79)) (v := .bool true) (by decide) rfl rfl (by kernel_rfl) (by kernel_rfl) (by kernel_rfl) (fun _ _ _ h => h) rfl (fun W => rfl) ?_
              conv => arg 8; simp only [Act.put, List.setIfInBounds_toArray, List.set_cons_zero, List.set_cons_succ]
              refine rg_done (by kernel_rfl) ?_
              have HF := Lib.hid (HX.out.2.2.2.1.thenN (d6.thenN k7))
              have HRR := Lib.hid (R.out.2.2.2.2.2.2.2.1 (by rw [HQ.out, HA.out]; simp [hl64]))
              go_wp2_with fail
              go_ret
              exact ⟨by rw [HRR.out]; rfl, HF.out⟩
          · have hH0' : ((H : Int) == 0) = false := by simp; omega
            have hH0'' : ((H : Int) != 0) = true := by simp; omega
            go_wp2_with fail
            rw [show wr.alloc (.cells #[.int .u64 (xt : Int), .int .u64 (xn : Int), .int .u64 (xf : Int), .slice dA xl dc] 40) = w5 from HX.out.1]
            refine rg_begin 21 (fun _ => False) (by kernel_rfl) (fun w6 d6 => ?_)
            refine rg_read 0 (d := (some 59)) (v := .agg #[n64 xt, n64 xn, n64 xf, .slice dA xl dc]) (by decide) (by kernel_rfl) (by kernel_rfl) rfl rfl (by kernel_rfl) (by kernel_rfl) (by kernel_rfl) (fun _ _ _ h => h) rfl (fun W hW => by exact run_load_op (HX.out.2.1 W (d6.thenN hW)).1 rfl Try.underlying40 rfl (show (Try.prog.info? 40).map (·.size) = some 4 by kernel_rfl)) ?_
            conv => arg 8; simp only [Act.put, List.setIfInBounds_toArray, List.set_cons_zero, List.set_cons_succ]
            refine rg_take 1 (d := (some 60)) (v := .pointer (some ⟨w.heap.size, 10, none⟩)) (by decide) rfl rfl (by kernel_rfl) (by kernel_rfl) (by kernel_rfl) (fun _ _ _ h => h) rfl (fun W => by go_simp) ?_
            conv => arg 8; simp only [Act.put, List.setIfInBounds_toArray, List.set_cons_zero, List.set_cons_succ]
            refine rg_read 2 (d := (some 61)) (v := .slice (some ad) N bc) (by decide) (by kernel_rfl) (by kernel_rfl) rfl rfl (by kernel_rfl) (by kernel_rfl) (by kernel_rfl) (fun _ _ _ h => h) rfl (fun W hW => by have hc := (fun W hW => HX.out.2.2.1 W (d6.thenN hW)) W hW; go_simp) ?_
            conv => arg 8; simp only [Act.put, List.setIfInBounds_toArray, List.set_cons_zero, List.set_cons_succ]
            refine rg_take 3 (d := (some 62)) (v := .int .i64 q) (by decide) rfl rfl (by kernel_rfl) (by kernel_rfl) (by kernel_rfl) (fun _ _ _ h => h) rfl (fun W => rfl) ?_
            conv => arg 8; simp only [Act.put, List.setIfInBounds_toArray, List.set_cons_zero, List.set_cons_succ]
            refine rg_take 4 (d := (some 63)) (v := .slice (some ad) q bc) (by decide) rfl rfl (by kernel_rfl) (by kernel_rfl) (by kernel_rfl) (fun _ _ _ h => h) rfl (fun W => by go_simp) ?_
            conv => arg 8; simp only [Act.put, List.setIfInBounds_toArray, List.set_cons_zero, List.set_cons_succ]
            refine rg_call 5 (d := (some 64)) (by kernel_rfl) (HC.out.1 w6 _ (HX.out.2.2.2.2.1.keepN d6) (HX.out.2.2.2.1.thenN d6)) rfl rfl (by kernel_rfl) rfl rfl ?_
            rintro e w7 ⟨rfl, k7⟩
            refine ⟨_, rfl, k7, ?_⟩
            conv => arg 8; simp only [Act.put, List.setIfInBounds_toArray, List.set_cons_zero, List.set_cons_succ]
            refine rg_take 6 (d := (some 65)) (v := .bool true) (by decide) rfl rfl (by kernel_rfl) (by kernel_rfl) (by kernel_rfl) (fun _ _ _ h => h) rfl (fun W => by go_simp) ?_
            conv => arg 8; simp only [Act.put, List.setIfInBounds_toArray, List.set_cons_zero, List.set_cons_succ]
            refine rg_take 7 (d := (some 66)) (v := .bool true) (by decide) rfl rfl (by kernel_rfl) (by kernel_rfl) (by kernel_rfl) (fun _ _ _ h => h) rfl (fun W => rfl) ?_
            conv => arg 8; simp only [Act.put, List.setIfInBounds_toArray, List.set_cons_zero, List.set_cons_succ]
            refine rg_skip 8 (d := (some 67)) (by decide) rfl rfl (by kernel_rfl) (by kernel_rfl) (by kernel_rfl) (fun _ _ _ h => h) rfl ?_
            conv => arg 8; simp only [Act.put, List.setIfInBounds_toArray, List.set_cons_zero, List.set_cons_succ]
            refine rg_skip 9 (d := (some 68)) (by decide) rfl rfl (by kernel_rfl) (by kernel_rfl) (by kernel_rfl) (fun _ _ _ h => h) rfl ?_
            conv => arg 8; simp only [Act.put, List.setIfInBounds_toArray, List.set_cons_zero, List.set_cons_succ]
            refine rg_skip 10 (d := (some 69)) (by decide) rfl rfl (by kernel_rfl) (by kernel_rfl) (by kernel_rfl) (fun _ _ _ h => h) rfl ?_
            conv => arg 8; simp only [Act.put, List.setIfInBounds_toArray, List.set_cons_zero, List.set_cons_succ]
            refine rg_skip 11 (d := (some 70)) (by decide) rfl rfl (by kernel_rfl) (by kernel_rfl) (by kernel_rfl) (fun _ _ _ h => h) rfl ?_
            conv => arg 8; simp only [Act.put, List.setIfInBounds_toArray, List.set_cons_zero, List.set_cons_succ]
            refine rg_take 12 (d := (some 71)) (v := .bool true) (by decide) rfl rfl (by kernel_rfl) (by kernel_rfl) (by kernel_rfl) (fun _ _ _ h => h) rfl (fun W => rfl) ?_
            conv => arg 8; simp only [Act.put, List.setIfInBounds_toArray, List.set_cons_zero, List.set_cons_succ]
            refine rg_take 13 (d := (some 72)) (v := .bool true) (by decide) rfl rfl (by kernel_rfl) (by kernel_rfl) (by kernel_rfl) (fun _ _ _ h => h) rfl (fun W => rfl) ?_
            conv => arg 8; simp only [Act.put, List.setIfInBounds_toArray, List.set_cons_zero, List.set_cons_succ]
            refine rg_skip 14 (d := (some 73)) (by decide) rfl rfl (by kernel_rfl) (by kernel_rfl) (by kernel_rfl) (fun _ _ _ h => h) rfl ?_
            conv => arg 8; simp only [Act.put, List.setIfInBounds_toArray, List.set_cons_zero, List.set_cons_succ]
            refine rg_skip 15 (d := (some 74)) (by decide) rfl rfl (by kernel_rfl) (by kernel_rfl) (by kernel_rfl) (fun _ _ _ h => h) rfl ?_
            conv => arg 8; simp only [Act.put, List.setIfInBounds_toArray, List.set_cons_zero, List.set_cons_succ]
            refine rg_skip 16 (d := (some 75)) (by decide) rfl rfl (by kernel_rfl) (by kernel_rfl) (by kernel_rfl) (fun _ _ _ h => h) rfl ?_
            conv => arg 8; simp only [Act.put, List.setIfInBounds_toArray, List.set_cons_zero, List.set_cons_succ]
            refine rg_skip 17 (d := (some 76)) (by decide) rfl rfl (by kernel_rfl) (by kernel_rfl) (by kernel_rfl) (fun _ _ _ h => h) rfl ?_
            conv => arg 8; simp only [Act.put, List.setIfInBounds_toArray, List.set_cons_zero, List.set_cons_succ]
            refine rg_skip 18 (d := (some 77)) (by decide) rfl rfl (by kernel_rfl) (by kernel_rfl) (by kernel_rfl) (fun _ _ _ h => h) rfl ?_
            conv => arg 8; simp only [Act.put, List.setIfInBounds_toArray, List.set_cons_zero, List.set_cons_succ]
            refine rg_skip 19 (d := (some 78)) (by decide) rfl rfl (by kernel_rfl) (by kernel_rfl) (by kernel_rfl) (fun _ _ _ h => h) rfl ?_
            conv => arg 8; simp only [Act.put, List.setIfInBounds_toArray, List.set_cons_zero, List.set_cons_succ]
            refine rg_take 20 (d := (some 79)) (v := .bool true) (by decide) rfl rfl (by kernel_rfl) (by kernel_rfl) (by kernel_rfl) (fun _ _ _ h => h) rfl (fun W => rfl) ?_
            conv => arg 8; simp only [Act.put, List.setIfInBounds_toArray, List.set_cons_zero, List.set_cons_succ]
            refine rg_done (by kernel_rfl) ?_
            have HF := Lib.hid (HX.out.2.2.2.1.thenN (d6.thenN k7))
            have HRR := Lib.hid (R.out.2.2.2.2.2.2.2.1 (by rw [HQ.out, HA.out]; simp [hH0]))
            go_wp2_with fail
            go_ret
            exact ⟨by rw [HRR.out]; rfl, HF.out⟩
        · have hqn : q = N := by omega
          have HRR := Lib.hid (R.out.2.2.2.2.2.2.2.2 T1.out T2.out T3.out T4.out T5.out T6.out HE6.out (by rw [HQ.out]; exact blksB_out _ _ (by rw [HB.out.1]; omega)))
          have HF := Lib.hid (HH.out.2.1.thenN kr)
          subst hqn
          clear kr
          go_wp2_with fail
          go_ret
          exact ⟨by rw [HRR.out]; rfl, HF.out⟩
end Go.Proofs.Yteokkpmndfekoaa
