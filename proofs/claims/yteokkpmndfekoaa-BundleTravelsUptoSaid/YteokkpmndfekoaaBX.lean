/- bundle: fits. -/
import Derived.Test.YteokkpmndfekoaaBW
namespace Go.Proofs.Yteokkpmndfekoaa
open Go Go.RowKit Go.ChangeShapes Go.WideShapes Go.ChangeAt
set_option maxRecDepth 100000

theorem tyBad_dup {t : Nat} {l : List Blk} {j : Nat} (hk : known t = true) (hj : j < l.length) (h : l[j].ty = t) : tyBad t l = true := by
  unfold tyBad
  simp only [Bool.or_eq_true, Bool.and_eq_true, List.any_eq_true, decide_eq_true_eq]
  exact .inr ⟨hk, l[j], List.getElem_mem hj, h⟩
theorem nuBad_dup {n : Nat} {l : List Blk} {j : Nat} (hj : j < l.length) (h : l[j].nu = n) : nuBad n l = true := by
  unfold nuBad
  simp only [Bool.or_eq_true, List.any_eq_true, decide_eq_true_eq]
  exact .inr ⟨l[j], List.getElem_mem hj, h⟩
theorem tyBad_ok {t : Nat} {l : List Blk} (h1 : 2 ≤ t) (h2 : t ≤ 255) (h : ∀ j (hj : j < l.length), known t = true → l[j].ty ≠ t) : tyBad t l = false := by
  apply Bool.eq_false_iff.2
  intro hb
  unfold tyBad at hb
  simp only [Bool.or_eq_true, Bool.and_eq_true, List.any_eq_true, decide_eq_true_eq] at hb
  rcases hb with (hb | hb) | ⟨hk, x, hx, he⟩
  · omega
  · omega
  · obtain ⟨j, hj, rfl⟩ := List.mem_iff_getElem.1 hx
    exact h j hj hk he
theorem nuBad_ok {t : Nat} {l : List Blk} (h1 : 2 ≤ t) (h2 : t ≤ 255) (h : ∀ j (hj : j < l.length), l[j].nu ≠ t) : nuBad t l = false := by
  apply Bool.eq_false_iff.2
  intro hb
  unfold nuBad at hb
  simp only [Bool.or_eq_true, List.any_eq_true, decide_eq_true_eq] at hb
  rcases hb with (hb | hb) | ⟨x, hx, he⟩
  · omega
  · omega
  · obtain ⟨j, hj, rfl⟩ := List.mem_iff_getElem.1 hx
    exact h j hj he
theorem fits_no {x : Blk} {l : List Blk} (h : tyBad x.ty l = true ∨ nuBad x.nu l = true ∨ 255 < x.fl) : fitsB x l = false := by
  apply Bool.eq_false_iff.2
  intro hb
  have := (fitsB_iff x l).1 hb
  rcases h with h | h | h
  · rw [this.1] at h; cases h
  · rw [this.2.1] at h; cases h
  · omega
theorem tyBad_small {t : Nat} {l : List Blk} (h : t < 2 ∨ 255 < t) : tyBad t l = true := by
  unfold tyBad
  simp only [Bool.or_eq_true, decide_eq_true_eq]
  exact .inl h
theorem nuBad_small {t : Nat} {l : List Blk} (h : t < 2 ∨ 255 < t) : nuBad t l = true := by
  unfold nuBad
  simp only [Bool.or_eq_true, decide_eq_true_eq]
  exact .inl h
set_option maxHeartbeats 6400000 in
theorem bfits_c {w : World} {x : Blk} {v bv : Value} {l : List Blk} (h : RdB w v x.da) (hb : SlAt w 4 BlkAt bv l) (h1 : U64 x.ty) (hl : l.length ≤ 10000000) : Calls Try.prog 84 #[blkV x v, bv] w fun e w' => e = .returned (.bool (fitsB x l)) ∧ KpN w w' := by
  obtain ⟨t, n, f, da⟩ := x
  dsimp only at h h1 ⊢
  obtain ⟨A, c, rfl, -⟩ := h.form
  obtain ⟨bA, bc, rfl, hbc⟩ := hb.form
  obtain ⟨L, hL⟩ : ∃ L, da.length = L := ⟨_, rfl⟩
  obtain ⟨N, hN⟩ : ∃ N, l.length = N := ⟨_, rfl⟩
  obtain ⟨w1, hw1⟩ : ∃ w1, w.alloc (.cells #[n64 t, n64 n, n64 f, .slice A da.length c] 37) = w1 := ⟨_, rfl⟩
  have k1 : KpN w w1 := by rw [← hw1]; exact (Kp.refl _ w).alloc _
  have hB : CellsAt w1 w.heap.size [n64 t, n64 n, n64 f, .slice A da.length c] := by rw [← hw1]; exact CellsAt.new w [n64 t, n64 n, n64 f, .slice A da.length c] 37
  have hz1 : w1.heap.size = w.heap.size + 1 := by rw [← hw1]; simp
  have hno := fun hh => fits_no (x := ⟨t, n, f, da⟩) (l := l) hh
  obtain ⟨r, hr⟩ : ∃ r, fitsB ⟨t, n, f, da⟩ l = r := ⟨_, rfl⟩
  have hyes := (fitsB_iff ⟨t, n, f, da⟩ l).2
  rw [hr] at hno hyes ⊢
  dsimp only at hno hyes
  rw [hL] at hw1 hB ⊢
  rw [hN] at hl hb hbc ⊢
  have b0 := hB.at_ 0 rfl
  have b1 := hB.at_ 1 rfl
  have b2 := hB.at_ 2 rfl
  have hK := kinds_c w1 t h1
  have HH := Lib.hid (And.intro hw1 (And.intro k1 (And.intro hB hz1)))
  have HB := Lib.hid (And.intro hN hb)
  have HR := Lib.hid (And.intro hno hyes)
  clear hw1 h k1 hB hz1 hL hr hno hyes hb hN
  go_enter Try.func84, Try.ntmps84
  by_cases t1 : t < 2
  · have t1' : (t : Int) < 2 := by omega
    have HRR := Lib.hid (HR.out.1 (.inl (tyBad_small (.inl t1))))
    clear t1
    go_wp2_with ((with_reducible show wpList _ _ _ _ _ (World.alloc w _)); rw [HH.out.1])
    go_ret
    exact ⟨by rw [HRR.out]; rfl, HH.out.2.1⟩
  have t1' : decide ((t : Int) < 2) = false := by simp; omega
  by_cases t2 : 255 < t
  · have t2' : (255 : Int) < (t : Int) := by omega
    have HRR := Lib.hid (HR.out.1 (.inl (tyBad_small (.inr t2))))
    clear t1 t2
    go_wp2_with ((with_reducible show wpList _ _ _ _ _ (World.alloc w _)); rw [HH.out.1])
    go_ret
    exact ⟨by rw [HRR.out]; rfl, HH.out.2.1⟩
  have t2' : decide ((255 : Int) < (t : Int)) = false := by simp; omega
  by_cases n1 : n < 2
  · have n1' : (n : Int) < 2 := by omega
    have HRR := Lib.hid (HR.out.1 (.inr (.inl (nuBad_small (.inl n1)))))
    clear t1 t2 n1
    go_wp2_with ((with_reducible show wpList _ _ _ _ _ (World.alloc w _)); rw [HH.out.1])
    go_ret
    exact ⟨by rw [HRR.out]; rfl, HH.out.2.1⟩
  have n1' : decide ((n : Int) < 2) = false := by simp; omega
  by_cases n2 : 255 < n
  · have n2' : (255 : Int) < (n : Int) := by omega
    have HRR := Lib.hid (HR.out.1 (.inr (.inl (nuBad_small (.inr n2)))))
    clear t1 t2 n1 n2
    go_wp2_with ((with_reducible show wpList _ _ _ _ _ (World.alloc w _)); rw [HH.out.1])
    go_ret
    exact ⟨by rw [HRR.out]; rfl, HH.out.2.1⟩
  have n2' : decide ((255 : Int) < (n : Int)) = false := by simp; omega
  by_cases f1 : 255 < f
  · have f1' : (255 : Int) < (f : Int) := by omega
    have HRR := Lib.hid (HR.out.1 (.inr (.inr f1)))
    clear t1 t2 n1 n2 f1
    go_wp2_with ((with_reducible show wpList _ _ _ _ _ (World.alloc w _)); rw [HH.out.1])
    go_ret
    exact ⟨by rw [HRR.out]; rfl, HH.out.2.1⟩
  have f1' : decide ((255 : Int) < (f : Int)) = false := by simp; omega
  have HT := Lib.hid (show (2 ≤ t ∧ t ≤ 255) ∧ (2 ≤ n ∧ n ≤ 255) ∧ f ≤ 255 by omega)
  clear t1 t2 n1 n2 f1
  go_wp2_with ((with_reducible show wpList _ _ _ _ _ (World.alloc w _)); rw [HH.out.1])
  refine hK.mono ?_
  rintro e w2 ⟨rfl, k2⟩
  clear hK t1' t2' n1' n2' f1'
  obtain ⟨w3, hw3⟩ : ∃ w3, w2.alloc (.cells #[.nilFunc] 132) = w3 := ⟨_, rfl⟩
  have hX : CellsAt w3 w2.heap.size [.nilFunc] := by rw [← hw3]; exact CellsAt.new w2 [.nilFunc] 132
  have hz3 : w3.heap.size = w2.heap.size + 1 := by rw [← hw3]; simp
  have k3 : KpN w2 w3 := by rw [← hw3]; exact (Kp.refl _ w2).alloc _
  obtain ⟨w4, hst, hX4, k4, hz4⟩ := box_store hX 132 #[kindV t] rfl (by kernel_rfl) (by simp [kindV_one])
  have k24 : KpN w2 w4 := k3.fresh k4 (fun i e => by omega)
  have kk := HH.out.2.1.thenN (k2.thenN k24)
  have hB4 := HH.out.2.2.1.keep (by have := HH.out.2.2.2; omega) (k2.thenN k24) (fun x => x)
  have HS := Lib.hid (And.intro hw3 (And.intro hst (And.intro kk (And.intro hB4 (show w.heap.size + 1 ≤ w4.heap.size by have := (k2.thenN k24).size; have := HH.out.2.2.2; omega)))))
  obtain ⟨kn, hkn⟩ : ∃ kn, known t = kn := ⟨_, rfl⟩
  have HKN := Lib.hid hkn
  rw [hkn]
  clear hw3 hX hz3 k3 hst hX4 k4 hz4 k24 k2 kk hB4 b0 b1 b2 hkn
  go_wp2_with ((with_reducible show wpList _ _ _ (Oper.mk none (Op.store 132 _ _) _ _ _ _ :: _) _ _); rw [HS.out.1]; refine wpl_skip rfl (run_store_op HS.out.2.1 rfl rfl) ?_)
  go_loopw [40] (fun i wr => ∃ q : Nat, q ≤ N ∧ i = .int .i64 q ∧ (∀ j (hj : j < l.length), j < q → l[j].nu ≠ n ∧ (kn = true → l[j].ty ≠ t)) ∧ KpN w4 wr) (fun i _ => N - (intOf i).toNat)
  case atStart => exact ⟨0, Nat.zero_le _, rfl, fun j _ hj => by omega, Kp.refl _ _⟩
  case round =>
    obtain ⟨q, hq, rfl, hno, kr⟩ := hrel
    have HN := Lib.hid hno
    clear hno
    by_cases hlt : q < N
    · have hql : q < l.length := by rw [HB.out.1]; exact hlt
      obtain ⟨ad, cs, rfl, -, hrow0, ⟨⟨dw, rfl, hdw⟩, hxo⟩⟩ := HB.out.2.row q hql
      have hrow := hrow0.keepN (HS.out.2.2.1.thenN kr)
      obtain ⟨y, hy⟩ : ∃ y, l[q] = y := ⟨_, rfl⟩
      have hgo : (y.nu ≠ n ∧ (kn = true → y.ty ≠ t)) → ∀ j (hj : j < l.length), j < q + 1 → l[j].nu ≠ n ∧ (kn = true → l[j].ty ≠ t) := fun e j hj hjq => by
        by_cases hje : j = q
        · subst hje; rw [hy]; exact e
        · exact HN.out j hj (by omega)
      have hd1 : y.nu = n → r = false := fun e => HR.out.1 (.inr (.inl (nuBad_dup hql (by rw [hy]; exact e))))
      have hd2 : kn = true → y.ty = t → r = false := fun ek e => HR.out.1 (.inl (tyBad_dup (by rw [HKN.out]; exact ek) hql (by rw [hy]; exact e)))
      rw [hy] at hrow hdw
      obtain ⟨yt, yn, yf, yd⟩ := y
      dsimp only at hrow hdw hgo hd1 hd2
      obtain ⟨dA, dc, rfl, -⟩ := hdw.form
      generalize yd.length = yl at *
      have c0 := hrow.c0
      have c1 := hrow.fld 0 rfl
      have c2 := hrow.fld 1 rfl
      have c3 := hrow.fld 2 rfl
      have hBr := (HS.out.2.2.2.1.keep (by have := HS.out.2.2.2.2; omega) kr (fun x => x)).keep (by have := HS.out.2.2.2.2; have := kr.size; omega) ((Kp.refl (fun _ => False) wr).alloc (.cells #[n64 yt, n64 yn, n64 yf, .slice dA yl dc] 37)) (fun x => x)
      have hbl : w.heap.size < wr.heap.size := by have := HS.out.2.2.2.2; have := kr.size; omega
      have b0 := hBr.at_ 0 rfl
      have b1 := hBr.at_ 1 rfl
      have hfr := fun hh : r = false => hh
      have HF := Lib.hid (And.intro (HS.out.2.2.1.thenN (kr.alloc (.cells #[n64 yt, n64 yn, n64 yf, .slice dA yl dc] 37))) kr)
      have HG := Lib.hid (And.intro hgo (And.intro hd1 hd2))
      clear hrow hrow0 hdw hxo hy hgo hBr hd1 hd2 kr hfr
      by_cases e1 : yn = n
      · subst e1
        have HRR := Lib.hid (HG.out.2.1 rfl)
        go_wp2_with fail
        go_ret
        exact ⟨by rw [HRR.out]; rfl, HF.out.1⟩
      · have e1' : ((yn : Int) == (n : Int)) = false := by simp; omega
        rcases kn with _ | _
        · have HD := Lib.hid (HG.out.1 ⟨e1, fun e => by cases e⟩)
          clear e1
          go_wp2_with fail
          go_roundw
          case rel => exact ⟨q + 1, by omega, by go_num, HD.out, HF.out.2.alloc _⟩
          case measure => exact meas_up hlt
        · by_cases e2 : yt = t
          · subst e2
            have HRR := Lib.hid (HG.out.2.2 rfl rfl)
            clear e1
            go_wp2_with fail
            go_ret
            exact ⟨by rw [HRR.out]; rfl, HF.out.1⟩
          · have e2' : ((yt : Int) == (t : Int)) = false := by simp; omega
            have HD := Lib.hid (HG.out.1 ⟨e1, fun _ => e2⟩)
            clear e1 e2
            go_wp2_with fail
            go_roundw
            case rel => exact ⟨q + 1, by omega, by go_num, fun j hj hjq => ⟨(HD.out j hj hjq).1, fun _ => (HD.out j hj hjq).2 rfl⟩, HF.out.2.alloc _⟩
            case measure => exact meas_up hlt
    · obtain rfl : q = N := by omega
      have hr : r = true := by
        have hT := HT.out
        exact HR.out.2 ⟨tyBad_ok hT.1.1 hT.1.2 (fun j hj hk => (HN.out j hj (by have := HB.out.1; omega)).2 (by rw [← HKN.out]; exact hk)), nuBad_ok hT.2.1.1 hT.2.1.2 (fun j hj => (HN.out j hj (by have := HB.out.1; omega)).1), hT.2.2⟩
      have HRR := Lib.hid hr
      have HF := Lib.hid (HS.out.2.2.1.thenN kr)
      clear hr kr
      go_wp2_with fail
      go_ret
      exact ⟨by rw [HRR.out]; rfl, HF.out⟩
end Go.Proofs.Yteokkpmndfekoaa
