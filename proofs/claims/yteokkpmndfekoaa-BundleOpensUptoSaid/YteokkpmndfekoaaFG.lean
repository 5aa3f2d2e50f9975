/- the document's Open; isFrame; BundleOpens. -/
import Derived.Test.YteokkpmndfekoaaFF
namespace Go.Proofs.Yteokkpmndfekoaa
open Go Go.RowKit Go.ChangeShapes Go.WideShapes Go.ChangeAt
set_option maxRecDepth 100000

set_option maxHeartbeats 6400000 in
theorem ropen_c {w : World} {bv pv : Value} {b : Bdl} (h : RdBd w bv pv b) (hsz : bdSize b ≤ 10000000) : Calls Try.prog 30 #[bdV b bv pv] w (ROpenP b w) := by
  obtain ⟨bA, bc, rfl, -⟩ := h.bl.form
  obtain ⟨pA, pc, rfl, -⟩ := h.pl.form
  have hpl := (bdSize_len b).2.1
  obtain ⟨w2, hw2⟩ : ∃ w2, ((w.alloc (.cells #[n64 b.fl, n64 b.e0, n64 b.e1, n64 b.e2, n64 b.e3, n64 b.e4, n64 b.e5, n64 b.ti, n64 b.sq, n64 b.li, .slice bA b.bl.length bc, .slice pA b.pl.length pc] 29)).alloc (.cells zero5.toArray 47)) = w2 := ⟨_, rfl⟩
  have k2 : KpN w w2 := by rw [← hw2]; exact ((Kp.refl _ w).alloc _).alloc _
  have hz2 : w2.heap.size = w.heap.size + 2 := by rw [← hw2]; simp
  have hB : CellsAt w2 w.heap.size (bdC b (.slice bA b.bl.length bc) (.slice pA b.pl.length pc)) := by
    rw [← hw2]
    exact (CellsAt.new w (bdC b (.slice bA b.bl.length bc) (.slice pA b.pl.length pc)) 29).keep (by simp) ((Kp.refl (fun _ => False) _).alloc _) (fun x => x)
  have hF : CellsAt w2 (w.heap.size + 1) zero5 := by
    rw [← hw2]
    have := CellsAt.new (w.alloc (.cells #[n64 b.fl, n64 b.e0, n64 b.e1, n64 b.e2, n64 b.e3, n64 b.e4, n64 b.e5, n64 b.ti, n64 b.sq, n64 b.li, .slice bA b.bl.length bc, .slice pA b.pl.length pc] 29)) zero5 47
    rwa [show (w.alloc (.cells #[n64 b.fl, n64 b.e0, n64 b.e1, n64 b.e2, n64 b.e3, n64 b.e4, n64 b.e5, n64 b.ti, n64 b.sq, n64 b.li, .slice bA b.bl.length bc, .slice pA b.pl.length pc] 29)).heap.size = w.heap.size + 1 by simp] at this
  have hv := rvalid_c (h.keepN k2) hsz
  have hop : opE b = if valE b = 0 then (if b.fl % 2 = 0 ∨ b.e1 ≠ b.e3 ∨ 8 ≤ b.e1 then 21 else 0) else valE b := rfl
  have hof : opF b = if opE b = 0 then ⟨b.e1, b.ti, b.sq, b.li, b.pl, b.e2, decide (b.fl / 2 % 2 = 1)⟩ else ⟨0, 0, 0, 0, [], 0, false⟩ := rfl
  unfold ROpenP
  obtain ⟨V, hV⟩ : ∃ V, valE b = V := ⟨_, rfl⟩
  obtain ⟨O, hO⟩ : ∃ O, opE b = O := ⟨_, rfl⟩
  obtain ⟨R, hR⟩ : ∃ R, opF b = R := ⟨_, rfl⟩
  rw [hV] at hv hop
  rw [hO] at hop hof ⊢
  rw [hR] at hof ⊢
  have hul : U64 b.fl := h.ok.1
  have hu1 : U64 b.e1 := h.ok.2.2.1
  have HH := Lib.hid (And.intro hw2 (And.intro k2 (And.intro hB (And.intro hF hz2))))
  have HR := Lib.hid (And.intro h (And.intro hsz hpl))
  have HP := Lib.hid (And.intro hop hof)
  clear hw2 k2 hz2 hB hF hop hof hV hO hR h hsz hpl
  go_enter Try.func30, Try.ntmps30
  go_wp2_with (first
    | ((with_reducible show wpList _ _ _ _ _ (World.alloc (World.alloc w _) _)); rw [HH.out.1])
    | ((with_reducible show wpList _ _ _ (Oper.mk _ (Op.load 29 _) _ _ _ _ :: _) _ _); refine wpl_val rfl (run_load_opv (rbd_loadN HH.out.2.2.1 (by have := HH.out.2.2.2.2; omega) (Kp.refl _ _)) rfl) ?_)
    | fail)
  refine hv.mono ?_
  rintro e w3 ⟨rfl, k3⟩
  clear hv
  have hF3 := HH.out.2.2.2.1.keep (by have := HH.out.2.2.2.2; omega) k3 (fun x => x)
  have hB3 := HH.out.2.2.1.keep (by have := HH.out.2.2.2.2; omega) k3 (fun x => x)
  have hz3 := k3.size
  have H3 := Lib.hid (And.intro hF3 (And.intro hB3 (And.intro (HH.out.2.1.thenN k3) (show w.heap.size + 2 ≤ w3.heap.size by have := HH.out.2.2.2.2; omega))))
  clear hF3 hB3 k3 hz3
  by_cases hV0 : V = 0
  rotate_left 1
  · have ho := HP.out.1
    rw [if_neg hV0] at ho
    have hr := HP.out.2
    rw [if_neg (by rw [ho]; exact hV0)] at hr
    obtain ⟨w4, hst, hX4, k4, hz4⟩ := box_store H3.out.1 47 zero5.toArray rfl (by kernel_rfl) (by kernel_rfl)
    have HF := Lib.hid (And.intro ho (And.intro hr (And.intro hst (And.intro hX4 (H3.out.2.2.1.fresh k4 (fun i e => by omega))))))
    have hV' : (V == 0) = false := by simp [hV0]
    have hV'' : (V != 0) = true := by simp [hV0]
    clear ho hr hst hX4 k4 hz4 hV0
    go_wp2_with (first
      | ((with_reducible show wpList _ _ _ (Oper.mk _ (Op.store 47 _ _) _ _ _ _ :: _) _ _); refine wpl_skip rfl (run_store_op HF.out.2.2.1 rfl rfl) ?_)
      | fail)
    (try simp only [Exit.inBlock, Exit.then])
    refine bodyPost_ret (results_cell_tmp3_at rfl _ _ rfl HF.out.2.2.2.1.1 Try.underlying47 rfl (by kernel_rfl)) rfl ?_
    exact ⟨.slice none 0 0, by rw [HF.out.1, HF.out.2.1]; rfl, by rw [HF.out.2.1]; exact RdB.nil _, HF.out.2.2.2.2⟩
  subst hV0
  have ho := HP.out.1
  rw [if_pos rfl] at ho
  have c2 := H3.out.2.1.at_ 2 rfl
  have c0 := H3.out.2.1.at_ 0 rfl
  have c4 := H3.out.2.1.at_ 4 rfl
  by_cases hbad : b.fl % 2 = 0 ∨ b.e1 ≠ b.e3 ∨ 8 ≤ b.e1
  · rw [if_pos hbad] at ho
    have hr := HP.out.2
    rw [if_neg (by rw [ho]; simp)] at hr
    obtain ⟨w4, hst, hX4, k4, hz4⟩ := box_store H3.out.1 47 zero5.toArray rfl (by kernel_rfl) (by kernel_rfl)
    have HF := Lib.hid (And.intro ho (And.intro hr (And.intro hst (And.intro hX4 (H3.out.2.2.1.fresh k4 (fun i e => by omega))))))
    clear ho hr hst hX4 k4 hz4
    by_cases t1 : b.fl % 2 = 0
    · have a1 : (b.fl : Int) % 2 = 0 := by omega
      clear t1 hbad
      go_wp2_with (first
        | ((with_reducible show wpList _ _ _ (Oper.mk _ (Op.store 47 _ _) _ _ _ _ :: _) _ _); refine wpl_skip rfl (run_store_op HF.out.2.2.1 rfl rfl) ?_)
        | fail)
      (try simp only [Exit.inBlock, Exit.then])
      refine bodyPost_ret (results_cell_tmp3_at rfl _ _ rfl HF.out.2.2.2.1.1 Try.underlying47 rfl (by kernel_rfl)) rfl ?_
      exact ⟨.slice none 0 0, by rw [HF.out.1, HF.out.2.1]; rfl, by rw [HF.out.2.1]; exact RdB.nil _, HF.out.2.2.2.2⟩
    · have a1 : (b.fl : Int) % 2 = 1 := by omega
      by_cases t2 : b.e1 = b.e3
      · have t3 : (8 : Int) ≤ (b.e1 : Int) := by
          rcases hbad with hh | hh | hh
          · exact absurd hh t1
          · exact absurd t2 hh
          · omega
        rw [← t2] at c4
        clear t1 hbad t2
        go_wp2_with (first
          | ((with_reducible show wpList _ _ _ (Oper.mk _ (Op.store 47 _ _) _ _ _ _ :: _) _ _); refine wpl_skip rfl (run_store_op HF.out.2.2.1 rfl rfl) ?_)
          | fail)
        (try simp only [Exit.inBlock, Exit.then])
        refine bodyPost_ret (results_cell_tmp3_at rfl _ _ rfl HF.out.2.2.2.1.1 Try.underlying47 rfl (by kernel_rfl)) rfl ?_
        exact ⟨.slice none 0 0, by rw [HF.out.1, HF.out.2.1]; rfl, by rw [HF.out.2.1]; exact RdB.nil _, HF.out.2.2.2.2⟩
      · have t2' : ((b.e1 : Int) != (b.e3 : Int)) = true := by simp; omega
        have t2'' : ((b.e1 : Int) == (b.e3 : Int)) = false := by simp; omega
        clear t1 hbad t2
        go_wp2_with (first
          | ((with_reducible show wpList _ _ _ (Oper.mk _ (Op.store 47 _ _) _ _ _ _ :: _) _ _); refine wpl_skip rfl (run_store_op HF.out.2.2.1 rfl rfl) ?_)
          | fail)
        (try simp only [Exit.inBlock, Exit.then])
        refine bodyPost_ret (results_cell_tmp3_at rfl _ _ rfl HF.out.2.2.2.1.1 Try.underlying47 rfl (by kernel_rfl)) rfl ?_
        exact ⟨.slice none 0 0, by rw [HF.out.1, HF.out.2.1]; rfl, by rw [HF.out.2.1]; exact RdB.nil _, HF.out.2.2.2.2⟩
  · rw [if_neg hbad] at ho
    have hr := HP.out.2
    rw [if_pos ho] at hr
    have t1 : b.fl % 2 = 1 := by omega
    have t2 : b.e3 = b.e1 := by
      by_cases e : b.e1 = b.e3
      · exact e.symm
      · exact absurd (.inr (.inl e)) hbad
    have t3' : b.e1 < 8 := by
      have : ¬ 8 ≤ b.e1 := fun e => hbad (.inr (.inr e))
      omega
    have t3 : decide ((8 : Int) ≤ (b.e1 : Int)) = false := by
      simp
      omega
    have a1 : (b.fl : Int) % 2 = 1 := by omega
    rw [t2] at c4
    have c3 := H3.out.2.1.at_ 3 rfl
    have c7 := H3.out.2.1.at_ 7 rfl
    have c8 := H3.out.2.1.at_ 8 rfl
    have c9 := H3.out.2.1.at_ 9 rfl
    have c11 := H3.out.2.1.at_ 11 rfl
    have g0 := H3.out.1.at_ 0 rfl
    have g1 := H3.out.1.at_ 1 rfl
    have g2 := H3.out.1.at_ 2 rfl
    have g3 := H3.out.1.at_ 3 rfl
    have g4 := H3.out.1.at_ 4 rfl
    have f0 := H3.out.1.2 0
    have f1 := H3.out.1.2 1
    have f2 := H3.out.1.2 2
    have f3 := H3.out.1.2 3
    have f4 := H3.out.1.2 4
    have hwr := wrap_id64 (b.e1 : Int) (by omega) (by omega)
    have hne : w.heap.size ≠ w.heap.size + 1 := by omega
    have hne2 : w.heap.size + 1 ≠ w.heap.size := by omega
    have hB10 := ((((H3.out.1.set 0 (.int .i64 (b.e1 : Int)) (by simp)).set 1 (n64 b.ti) (by simp)).set 2 (n64 b.sq) (by simp)).set 3 (n64 b.li) (by simp)).set 4 (.slice pA b.pl.length pc) (by simp)
    have k10 := (((((Kp.refl (fun k => k = w.heap.size + 1) w3).setCell (p := ⟨w.heap.size + 1, 0, none⟩) (.inl rfl) (.int .i64 (b.e1 : Int))).setCell (p := ⟨w.heap.size + 1, 1, none⟩) (.inl rfl) (n64 b.ti)).setCell (p := ⟨w.heap.size + 1, 2, none⟩) (.inl rfl) (n64 b.sq)).setCell (p := ⟨w.heap.size + 1, 3, none⟩) (.inl rfl) (n64 b.li)).setCell (p := ⟨w.heap.size + 1, 4, none⟩) (.inl rfl) (.slice pA b.pl.length pc) |>.drew
    have hB11 := hB10.keep (by simp; have := H3.out.2.2.2; omega) (Kp.refl (fun _ => False) _).drew (fun x => x)
    have kfin := H3.out.2.2.1.fresh k10 (fun i e => by omega)
    have HZ := Lib.hid (And.intro hB11 (And.intro (HR.out.1.pl.keepN kfin) kfin))
    have HF := Lib.hid (And.intro ho hr)
    clear hB10 hB11 k10 kfin ho hr t1 t2 hbad
    have u64w : IntKind.u64.wrap ((b.fl : Int) / 2) = (b.fl : Int) / 2 := by
      have : b.fl < 18446744073709551616 := hul
      simp [IntKind.wrap, IntKind.bits, IntKind.signed]
      omega
    rcases Nat.mod_two_eq_zero_or_one (b.fl / 2) with hq | hq
    · have a2' : (IntKind.u64.wrap ((b.fl : Int) / 2)).tmod 2 = 0 := by rw [u64w, Int.tmod_eq_emod_of_nonneg (by omega)]; omega
      have HN := Lib.hid (show decide (b.fl / 2 % 2 = 1) = false by simp; omega)
      clear hq u64w
      go_wp2_with fail
      go_region
      go_wp2_with fail
      (try simp only [Exit.inBlock, Exit.then])
      refine bodyPost_ret (results_cell_tmp3_at rfl _ _ rfl HZ.out.1.1 Try.underlying47 rfl (by kernel_rfl)) rfl ?_
      exact ⟨_, by rw [HF.out.1, HF.out.2, HN.out]; rfl, by rw [HF.out.2]; exact HZ.out.2.1, HZ.out.2.2⟩
    · have a2' : (IntKind.u64.wrap ((b.fl : Int) / 2)).tmod 2 = 1 := by rw [u64w, Int.tmod_eq_emod_of_nonneg (by omega)]; omega
      have HN := Lib.hid (show decide (b.fl / 2 % 2 = 1) = true by simp; omega)
      clear hq u64w
      go_wp2_with fail
      go_region
      go_wp2_with fail
      (try simp only [Exit.inBlock, Exit.then])
      refine bodyPost_ret (results_cell_tmp3_at rfl _ _ rfl HZ.out.1.1 Try.underlying47 rfl (by kernel_rfl)) rfl ?_
      exact ⟨_, by rw [HF.out.1, HF.out.2, HN.out]; rfl, by rw [HF.out.2]; exact HZ.out.2.1, HZ.out.2.2⟩
end Go.Proofs.Yteokkpmndfekoaa
