/- BundleDecodes: the walk. -/
import Derived.Test.YteokkpmndfekoaaGE
import Derived.Test.YteokkpmndfekoaaBI
namespace Go.Proofs.Yteokkpmndfekoaa
open Go Go.RowKit Go.ChangeShapes Go.WideShapes Go.ChangeAt
set_option maxRecDepth 100000

theorem rbundle_put (W : World) (b : Bdl) (A A' : Option Addr) (n c n' c' : Nat) : ∃ W', (Instr.storeAt 29 (.pointer (some ⟨W.heap.size, 0, none⟩)) (bdV b (.slice A n c) (.slice A' n' c'))).run Try.prog (W.alloc (.cells zeros12 29)) = .ok () W' ∧
    CellsAt W' W.heap.size (bdC b (.slice A n c) (.slice A' n' c')) ∧ KpN W W' ∧ W'.heap.size = W.heap.size + 1 := by
  obtain ⟨W', h1, h2, h3, h4⟩ := box_store (CellsAt.new W zeros12.toList 29) 29 #[n64 b.fl, n64 b.e0, n64 b.e1, n64 b.e2, n64 b.e3, n64 b.e4, n64 b.e5, n64 b.ti, n64 b.sq, n64 b.li, .slice A n c, .slice A' n' c'] rfl (by kernel_rfl) (by kernel_rfl)
  have hz : (W.alloc (.cells zeros12 29)).heap.size = W.heap.size + 1 := by simp
  exact ⟨W', h1, h2, ((Kp.refl (fun _ => False) W).alloc _).fresh h3 (fun i e => by omega), by rw [h4, hz]⟩
theorem rBytes_le1 (xs : List UInt8) (a : Nat) (f n : Int) : (rBytes xs a f n).1.length ≤ xs.length := by
  obtain ⟨y, p, q, e⟩ : ∃ x y z, rBytes xs a f n = (x, y, z) := ⟨_, _, _, rfl⟩
  rw [e]
  exact rBytes_len e
theorem decBlk_size (xs : List UInt8) (l : List Blk) (a : Nat) (f : Int) : blkSize (decBlk xs l a f).1 ≤ xs.length + 4 := by
  unfold blkSize decBlk decD
  dsimp only
  have := rBytes_le1 xs (rWant xs (decN xs l (decT xs l a f).2.1 (decT xs l a f).2.2).2.1 (decN xs l (decT xs l a f).2.1 (decT xs l a f).2.2).2.2 255).2.1 (rWant xs (decN xs l (decT xs l a f).2.1 (decT xs l a f).2.2).2.1 (decN xs l (decT xs l a f).2.1 (decT xs l a f).2.2).2.2 255).2.2 64
  omega
theorem decBlks_size (xs : List UInt8) : ∀ (k : Nat) (l : List Blk) (a : Nat) (f : Int), ((decBlks xs k l a f).1.map blkSize).sum ≤ (l.map blkSize).sum + k * (xs.length + 4)
  | 0, l, a, f => by rw [decBlks]; simp
  | k + 1, l, a, f => by
    rw [decBlks, Nat.succ_mul]
    split
    · dsimp only
      omega
    · have := decBlks_size xs k (l ++ [(decBlk xs l a f).1]) (decBlk xs l a f).2.1 (decBlk xs l a f).2.2
      have h1 := decBlk_size xs l a f
      rw [List.map_append, List.sum_append] at this
      simp only [List.map_cons, List.map_nil, List.sum_cons, List.sum_nil] at this
      omega
theorem decB_size (xs : List UInt8) : bdSize (decB xs) ≤ 10000000 := by
  unfold decB
  split
  · rename_i h
    unfold decE at h
    split at h
    · simp at h
    · rename_i hl
      clear h
      unfold bdSize decAll
      dsimp only
      obtain ⟨a1, f1, h9⟩ : ∃ a f, decNine xs 9 (rWant xs (decV xs).1 (decV xs).2 7).2.1 (rWant xs (decV xs).1 (decV xs).2 7).2.2 = ((decNine xs 9 (rWant xs (decV xs).1 (decV xs).2 7).2.1 (rWant xs (decV xs).1 (decV xs).2 7).2.2).1, a, f) := ⟨_, _, rfl⟩
      rw [h9]
      dsimp only
      obtain ⟨n, an, fn, hw⟩ : ∃ n a f, rWant xs a1 f1 8 = (n, a, f) := ⟨_, _, _, rfl⟩
      rw [hw]
      dsimp only
      have hp := rBytes_le1 xs (decBlks xs n [] an fn).2.1 (decBlks xs n [] an fn).2.2 512
      by_cases hf : fn = 0
      · have hn : n ≤ 8 := by
          rw [rWant_eq] at hw
          injection hw with q1 q2
          injection q2 with q2 q3
          have := (rAsk_zero (q3.trans hf)).1
          simp only [decide_eq_false_iff_not] at this
          omega
        have hb := decBlks_size xs n [] an fn
        have hm : n * (xs.length + 4) ≤ 8 * (xs.length + 4) := Nat.mul_le_mul_right _ hn
        simp only [List.map_nil, List.sum_nil] at hb
        refine Nat.le_trans (Nat.add_le_add hb hp) ?_
        omega
      · rw [decBlks_stop _ _ _ _ _ hf] at hp ⊢
        refine Nat.le_trans (Nat.add_le_add (Nat.le_refl 0) hp) ?_
        omega
  · decide
set_option maxHeartbeats 12800000 in
theorem decodes_walk {w : World} {v : Value} {xs : List UInt8} (h : RdB w v xs) (hl : xs.length ≤ 10000000) : Calls Try.prog 5 #[v] w (TrueP w) := by
  obtain ⟨A, c, rfl, -⟩ := h.form
  have hmk := mkb_c h (by omega)
  unfold BytesP at hmk
  obtain ⟨B, hB⟩ : ∃ z, decB xs = z := ⟨_, rfl⟩
  obtain ⟨E, hE⟩ : ∃ z, decE xs = z := ⟨_, rfl⟩
  have hsz := decB_size xs
  rw [hB] at hsz
  have hd1 := fun {W : World} {v : Value} (hh : RdB W v xs) => decode_c hh (by omega)
  have hd2 := fun {W : World} {v : Value} (hh : RdB W v xs) => rdecode_c hh (by omega)
  unfold DecP at hd1
  rw [hB, hE] at hd1 hd2
  have HC := Lib.hid (And.intro @hd1 @hd2)
  have HH := Lib.hid (And.intro h (And.intro hl hsz))
  clear hd1 hd2 hB hE hsz h hl
  go_enter Try.func5, Try.ntmps5
  go_wp2_with fail
  refine hmk.mono ?_
  rintro e w1 ⟨u, rfl, hu, -, k1⟩
  clear hmk
  obtain ⟨uA, uc, rfl, -⟩ := hu.rd.form
  have hdd := HC.out.1 hu.rd
  have H1 := Lib.hid (And.intro hu k1)
  clear hu k1
  go_wp2_with fail
  refine hdd.mono ?_
  intro e w2 hq
  unfold DecQ at hq
  obtain ⟨bv, pv, ls, rfl, ho, k2⟩ := hq
  clear hdd
  have hrd := ho.rd
  obtain ⟨bA, bc, rfl, -⟩ := hrd.bl.form
  obtain ⟨pA, pc, rfl, -⟩ := hrd.pl.form
  obtain ⟨w3, hst, hx3, k3, hz3⟩ := bundle_put w2 B bA pA B.bl.length bc B.pl.length pc
  have hl3 : ∀ W, KpN w3 W → (Instr.loadAt 34 (.pointer (some ⟨w2.heap.size, 0, none⟩))).run Try.prog W = .ok (bdV B (.slice bA B.bl.length bc) (.slice pA B.pl.length pc)) W := fun W k => bd_loadN hx3 (by omega) k
  have k03 := (H1.out.2.thenN k2).thenN k3
  have hdd := HC.out.2 (HH.out.1.keepN k03)
  have H3 := Lib.hid (And.intro hst (And.intro hl3 (And.intro (hrd.keepN k3) (And.intro (k2.thenN k3) k03))))
  clear hst hx3 hz3 hl3 k03 hrd ho k2 k3
  go_wp2_with (first
    | ((with_reducible show wpList _ _ _ (Oper.mk _ (Op.store 34 _ _) _ _ _ _ :: _) _ _); refine wpl_skip rfl (run_store_op H3.out.1 rfl rfl) ?_)
    | fail)
  refine hdd.mono ?_
  intro e w4 hq
  unfold RDecQ at hq
  obtain ⟨cv, qv, rfl, hrd, k4⟩ := hq
  clear hdd
  obtain ⟨cA, cc, rfl, -⟩ := hrd.bl.form
  obtain ⟨qA, qc, rfl, -⟩ := hrd.pl.form
  obtain ⟨w5, hst, hx5, k5, hz5⟩ := rbundle_put w4 B cA qA B.bl.length cc B.pl.length qc
  have hl5 := rbd_loadN hx5 (by omega) (Kp.refl _ _)
  have k35 := k4.thenN k5
  have his := is_c (H3.out.2.2.1.keepN k35) (hrd.keepN k5) HH.out.2.2
  have H5 := Lib.hid (And.intro hst (And.intro hl5 k35))
  clear hst hx5 hz5 hl5 k35 hrd k4 k5
  go_wp2_with (first
    | ((with_reducible show wpList _ _ _ (Oper.mk _ (Op.store 29 _ _) _ _ _ _ :: _) _ _); refine wpl_skip rfl (run_store_op H5.out.1 rfl rfl) ?_)
    | ((with_reducible show wpList _ _ _ (Oper.mk _ (Op.load 34 _) _ _ _ _ :: _) _ _); refine wpl_vg rfl (run_load_opv (H3.out.2.1 w5 H5.out.2.2) rfl) ?_)
    | ((with_reducible show wpList _ _ _ (Oper.mk _ (Op.load 29 _) _ _ _ _ :: _) _ _); refine wpl_vg rfl (run_load_opv H5.out.2.1 rfl) ?_)
    | fail)
  refine his.mono ?_
  rintro e w6 ⟨rfl, k6⟩
  clear his
  have k16 := (H3.out.2.2.2.1.thenN H5.out.2.2).thenN k6
  have hs := stays_c (H1.out.1.keepN k16) (HH.out.1.keepN (H1.out.2.thenN k16)) (by have := HH.out.2.1; omega)
  have H6 := Lib.hid (H1.out.2.thenN k16)
  clear k6 k16
  go_wp2_with fail
  refine hs.mono ?_
  rintro e w7 ⟨rfl, k7⟩
  go_wp2_with fail
  go_ret
  exact ⟨rfl, H6.out.thenN k7⟩
end Go.Proofs.Yteokkpmndfekoaa
