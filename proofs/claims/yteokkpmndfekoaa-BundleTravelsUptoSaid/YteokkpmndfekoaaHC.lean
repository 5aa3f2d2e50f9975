/- isFrame; small: what the statements of chapter 2 ask ahead. -/
import Derived.Test.YteokkpmndfekoaaGK
import Derived.Test.YteokkpmndfekoaaHB
import Derived.Test.YteokkpmndfekoaaGC
import Derived.Test.YteokkpmndfekoaaFF
import Derived.Test.YteokkpmndfekoaaBI
namespace Go.Proofs.Yteokkpmndfekoaa
open Go Go.RowKit Go.ChangeShapes Go.WideShapes Go.ChangeAt
set_option maxRecDepth 100000

theorem stamp_eql (W : World) (a b : Int) : (binOp .eql 25 (.agg #[.int .u64 a, .int .u64 b]) (.agg #[.int .u64 a, .int .u64 b])).run Try.prog W = .ok (.bool true) W := by
  have h := stamp_neq W a b
  rw [run_neq_struct] at h
  rw [run_eql_struct]
  rcases hq : (Op.equalIn 10000 25 (.agg #[.int .u64 a, .int .u64 b]) (.agg #[.int .u64 a, .int .u64 b])).run Try.prog W with ⟨v, w'⟩ | _ | _
  all_goals (rw [hq] at h; simp at h)
  rw [h.1, h.2]
  rfl
set_option maxHeartbeats 3200000 in
theorem isFrame_c {w : World} {s ti sq li : Nat} {u v : Value} {xs : List UInt8} (hu : RdB w u xs) (hv : RdB w v xs) (_hl : xs.length ≤ 100000000) : Calls Try.prog 31 #[frV s ti sq li u, frV s ti sq li v] w (TrueP w) := by
  obtain ⟨A, c, rfl, -⟩ := hu.form
  obtain ⟨A', c', rfl, -⟩ := hv.form
  obtain ⟨w2, hw2⟩ : ∃ w2, ((w.alloc (.cells #[.int .i64 s, n64 ti, n64 sq, n64 li, .slice A xs.length c] 47)).alloc (.cells #[.int .i64 s, n64 ti, n64 sq, n64 li, .slice A' xs.length c'] 47)) = w2 := ⟨_, rfl⟩
  have k2 : KpN w w2 := by rw [← hw2]; exact ((Kp.refl _ w).alloc _).alloc _
  have hz2 : w2.heap.size = w.heap.size + 2 := by rw [← hw2]; simp
  have hX : CellsAt w2 w.heap.size [.int .i64 s, n64 ti, n64 sq, n64 li, .slice A xs.length c] := by
    rw [← hw2]
    exact (CellsAt.new w [.int .i64 s, n64 ti, n64 sq, n64 li, .slice A xs.length c] 47).keep (by simp) ((Kp.refl (fun _ => False) _).alloc _) (fun x => x)
  have hY : CellsAt w2 (w.heap.size + 1) [.int .i64 s, n64 ti, n64 sq, n64 li, .slice A' xs.length c'] := by
    rw [← hw2]
    have := CellsAt.new (w.alloc (.cells #[.int .i64 s, n64 ti, n64 sq, n64 li, .slice A xs.length c] 47)) [.int .i64 s, n64 ti, n64 sq, n64 li, .slice A' xs.length c'] 47
    rwa [show (w.alloc (.cells #[.int .i64 s, n64 ti, n64 sq, n64 li, .slice A xs.length c] 47)).heap.size = w.heap.size + 1 by simp] at this
  have x0 := hX.at_ 0 rfl
  have x1 := hX.at_ 1 rfl
  have x2 := hX.at_ 2 rfl
  have x3 := hX.at_ 3 rfl
  have x4 := hX.at_ 4 rfl
  have y0 := hY.at_ 0 rfl
  have y1 := hY.at_ 1 rfl
  have y2 := hY.at_ 2 rfl
  have y3 := hY.at_ 3 rfl
  have y4 := hY.at_ 4 rfl
  have hcv := toStr_eq (hu.keepN k2) (hv.keepN k2)
  have hse := stamp_eql w2 ti sq
  have HC := Lib.hid (And.intro hcv hw2)
  have HK := Lib.hid k2
  clear hcv hw2 hX hY hz2 hu hv k2
  go_enter Try.func31, Try.ntmps31
  go_wp2_with (first
    | ((with_reducible show wpList _ _ _ _ _ (World.alloc (World.alloc w _) _)); rw [HC.out.2])
    | ((with_reducible show wpList _ _ _ (Oper.mk (some 27) (Op.convert _ _ _) _ _ _ _ :: _) _ _); refine conv_opg HC.out.1.1 rfl rfl ?_)
    | ((with_reducible show wpList _ _ _ (Oper.mk (some 30) (Op.convert _ _ _) _ _ _ _ :: _) _ _); refine conv_opg HC.out.1.2 rfl rfl ?_)
    | fail)
  go_ret
  exact ⟨rfl, HK.out⟩
theorem rBytes_le1 (xs : List UInt8) (a : Nat) (f n : Int) : (rBytes xs a f n).1.length ≤ xs.length := by
  obtain ⟨y, p, q, e⟩ : ∃ x y z, rBytes xs a f n = (x, y, z) := ⟨_, _, _, rfl⟩
  rw [e]
  exact rBytes_len e
theorem decBlk_size (xs : List UInt8) (l : List Blk) (a : Nat) (f : Int) : blkSize (decBlk xs l a f).1 ≤ xs.length + 4 := by
  unfold blkSize decBlk decD
  dsimp only
  have := rBytes_le1 xs (rWant xs (decN xs l (decT xs l a f).2.1 (decT xs l a f).2.2).2.1 (decN xs l (decT xs l a f).2.1 (decT xs l a f).2.2).2.2 255).2.1 (rWant xs (decN xs l (decT xs l a f).2.1 (decT xs l a f).2.2).2.1 (decN xs l (decT xs l a f).2.1 (decT xs l a f).2.2).2.2 255).2.2 64
  omega
theorem decBlks_size (xs : List UInt8) : ∀ (k : Nat) (l : List Blk) (a : Nat) (f : Int), ((decBlks xs k l a f).1.map blkSize).sum ≤ (l.map blkSize).sum + k * (xs.length + 4)
  | 0, l, a, f => by rw [decBlks]; simp
  | k + 1, l, a, f => by
    rw [decBlks, Nat.succ_mul]
    split
    · dsimp only
      omega
    · have := decBlks_size xs k (l ++ [(decBlk xs l a f).1]) (decBlk xs l a f).2.1 (decBlk xs l a f).2.2
      have h1 := decBlk_size xs l a f
      rw [List.map_append, List.sum_append] at this
      simp only [List.map_cons, List.map_nil, List.sum_cons, List.sum_nil] at this
      omega
theorem decB_size (xs : List UInt8) : bdSize (decB xs) ≤ 10000000 := by
  unfold decB
  split
  · rename_i h
    unfold decE at h
    split at h
    · simp at h
    · rename_i hl
      clear h
      unfold bdSize decAll
      dsimp only
      obtain ⟨a1, f1, h9⟩ : ∃ a f, decNine xs 9 (rWant xs (decV xs).1 (decV xs).2 7).2.1 (rWant xs (decV xs).1 (decV xs).2 7).2.2 = ((decNine xs 9 (rWant xs (decV xs).1 (decV xs).2 7).2.1 (rWant xs (decV xs).1 (decV xs).2 7).2.2).1, a, f) := ⟨_, _, rfl⟩
      rw [h9]
      dsimp only
      obtain ⟨n, an, fn, hw⟩ : ∃ n a f, rWant xs a1 f1 8 = (n, a, f) := ⟨_, _, _, rfl⟩
      rw [hw]
      dsimp only
      have hp := rBytes_le1 xs (decBlks xs n [] an fn).2.1 (decBlks xs n [] an fn).2.2 512
      by_cases hf : fn = 0
      · have hn : n ≤ 8 := by
          rw [rWant_eq] at hw
          injection hw with q1 q2
          injection q2 with q2 q3
          have := (rAsk_zero (q3.trans hf)).1
          simp only [decide_eq_false_iff_not] at this
          omega
        have hb := decBlks_size xs n [] an fn
        have hm : n * (xs.length + 4) ≤ 8 * (xs.length + 4) := Nat.mul_le_mul_right _ hn
        simp only [List.map_nil, List.sum_nil] at hb
        refine Nat.le_trans (Nat.add_le_add hb hp) ?_
        omega
      · rw [decBlks_stop _ _ _ _ _ hf] at hp ⊢
        refine Nat.le_trans (Nat.add_le_add (Nat.le_refl 0) hp) ?_
        omega
  · decide
def smB : Bdl := ⟨7, 5, 1, 4, 1, 4, 0, 300, 2, 50, [⟨10, 2, 0, [8, 0]⟩, ⟨7, 3, 0, [0]⟩], [7, 8, 9]⟩
theorem smB_wrap : wrapB 1 300 2 50 4 5 [7, 8, 9] true = smB ∧ wrapF 1 300 2 50 4 5 [7, 8, 9] = 0 := by
  constructor
  · rfl
  · decide
def smT : List UInt8 := [6, 7, 5, 1, 4, 1, 4, 0, 130, 44, 2, 50, 2, 10, 2, 0, 2, 8, 0, 7, 3, 0, 1, 0, 3, 7, 8, 9]
theorem smB_laid : laid smB = smT := by decide +kernel
theorem smB_val : valE smB = 0 := by decide +kernel
theorem smB_open : opE smB = 0 ∧ opF smB = ⟨1, 300, 2, 50, [7, 8, 9], 4, true⟩ := by
  have h : opE smB = 0 := by
    unfold opE
    rw [if_pos smB_val]
    decide
  refine ⟨h, ?_⟩
  unfold opF
  rw [if_pos h]
  rfl
set_option maxHeartbeats 25600000 in
theorem smallT_c (w : World) : Calls Try.prog 36 #[] w (TrueP w) := by
  obtain ⟨w1, hw1⟩ : ∃ w1, w.alloc (.cells #[.int .u8 7, .int .u8 8, .int .u8 9] 5) = w1 := ⟨_, rfl⟩
  have k1 : KpN w w1 := by rw [← hw1]; exact (Kp.refl _ w).alloc _
  have hz1 : w1.heap.size = w.heap.size + 1 := by rw [← hw1]; simp
  have ho1 : OwB w1 5 (Iv w.heap.size (w.heap.size + 1)) (.slice (some ⟨w.heap.size, 0, none⟩) 3 3) [7, 8, 9] := by
    have := OwB.lit w 5 [7, 8, 9] #[.int .u8 7, .int .u8 8, .int .u8 9] rfl (by simp)
    rwa [hw1] at this
  obtain ⟨w2, hw2⟩ : ∃ w2, w1.alloc (.cells #[.int .i64 1, .int .u64 300, .int .u64 2, .int .u64 50, .slice (some ⟨w.heap.size, 0, none⟩) 3 3] 47) = w2 := ⟨_, rfl⟩
  have k2 : KpN w1 w2 := by rw [← hw2]; exact (Kp.refl _ w1).alloc _
  have hz2 : w2.heap.size = w1.heap.size + 1 := by rw [← hw2]; simp
  have hF2 : CellsAt w2 w1.heap.size [.int .i64 1, .int .u64 300, .int .u64 2, .int .u64 50, .slice (some ⟨w.heap.size, 0, none⟩) 3 3] := by
    rw [← hw2]
    exact CellsAt.new w1 [.int .i64 1, .int .u64 300, .int .u64 2, .int .u64 50, .slice (some ⟨w.heap.size, 0, none⟩) 3 3] 47
  have hlf : ∀ W, KpN w2 W → (Instr.loadAt 47 (.pointer (some ⟨w1.heap.size, 0, none⟩))).run Try.prog W = .ok (.agg #[.int .i64 1, .int .u64 300, .int .u64 2, .int .u64 50, .slice (some ⟨w.heap.size, 0, none⟩) 3 3]) W := fun W k => run_loadAt_rowat (P := Try.prog) (hF2.keep (by omega) k (fun x => x)).1 Try.underlying47 rfl (by kernel_rfl)
  have hW : Calls Try.prog 19 #[.agg #[.int .i64 1, .int .u64 300, .int .u64 2, .int .u64 50, .slice (some ⟨w.heap.size, 0, none⟩) 3 3], .int .u64 4, .int .u64 5, .bool true] w2 fun e w' => ∃ bv pv ls, e = .returned (.tuple #[bdV smB bv pv, .int .i64 0]) ∧ OwBd w' 37 (Iv w2.heap.size w'.heap.size) bv pv smB ls ∧ KpN w2 w' := by
    have := wrapO_c (w := w2) (s := 1) (ti := 300) (sq := 2) (li := 50) (fr := 4) («to» := 5) (nw := true) (ho1.readsB.keepN k2) (by simp) (by unfold U64; omega) (by unfold U64; omega) (by unfold U64; omega) (by unfold U64; omega) (by unfold U64; omega)
    unfold WrapO at this
    rw [smB_wrap.1, smB_wrap.2] at this
    exact this
  have H2 := Lib.hid (And.intro hw1 (And.intro hw2 (And.intro hlf (And.intro (k1.thenN k2) (ho1.readsB.keepN k2)))))
  clear hw1 k1 hz1 ho1 hw2 k2 hz2 hF2 hlf
  go_enter Try.func36, Try.ntmps36
  go_wp2_with (first
    | ((with_reducible show wpList _ _ _ _ _ (World.alloc w _)); rw [H2.out.1])
    | ((with_reducible show wpList _ _ _ _ _ (World.alloc w1 _)); rw [H2.out.2.1])
    | ((with_reducible show wpList _ _ _ (Oper.mk (some 14) _ _ _ _ _ :: _) _ _); refine wpl_val rfl (run_load_opv (H2.out.2.2.1 w2 (Kp.refl _ _)) rfl) ?_)
    | fail)
  refine hW.mono ?_
  rintro e w3 ⟨bv, pv, ls, rfl, ho, k3⟩
  clear hW
  obtain ⟨S, hS⟩ : ∃ S, smB = S := ⟨_, rfl⟩
  have hS1 : valE S = 0 ∧ laid S = smT ∧ opE S = 0 ∧ opF S = ⟨1, 300, 2, 50, [7, 8, 9], 4, true⟩ ∧ bdSize S ≤ 10000000 := by rw [← hS]; exact ⟨smB_val, smB_laid, smB_open.1, smB_open.2, by decide⟩
  rw [hS] at ho ⊢
  have HS := Lib.hid hS1
  clear hS hS1
  have hrd := ho.rd
  obtain ⟨bA, bc, rfl, -⟩ := hrd.bl.form
  obtain ⟨pA, pc, rfl, -⟩ := hrd.pl.form
  obtain ⟨w4, hst, hx4, k4, hz4⟩ := bundle_put w3 S bA pA S.bl.length bc S.pl.length pc
  have hl4 := bd_loadN hx4 (by omega) (Kp.refl _ _)
  have hE : Calls Try.prog 26 #[bdV S (.slice bA S.bl.length bc) (.slice pA S.pl.length pc)] w4 fun e w' => ∃ v, e = .returned (.tuple #[v, .int .i64 0]) ∧ OwB w' 5 (Iv w4.heap.size w'.heap.size) v smT ∧ KpN w4 w' := by
    have := encode_c (hrd.keepN k4) HS.out.2.2.2.2
    unfold EncP at this
    rw [enc_laid HS.out.1, HS.out.1, HS.out.2.1] at this
    exact this
  have H4 := Lib.hid (And.intro hst (And.intro hl4 (k3.thenN k4)))
  clear hst hx4 k4 hz4 hl4 hrd ho k3
  go_wp2_with (first
    | ((with_reducible show wpList _ _ _ (Oper.mk _ (Op.store 34 _ _) _ _ _ _ :: _) _ _); refine wpl_skip rfl (run_store_op H4.out.1 rfl rfl) ?_)
    | ((with_reducible show wpList _ _ _ (Oper.mk (some 19) _ _ _ _ _ :: _) _ _); refine wpl_val rfl (run_load_opv H4.out.2.1 rfl) ?_)
    | fail)
  refine hE.mono ?_
  rintro e w5 ⟨v, rfl, o5, k5⟩
  clear hE
  have hcv : (convert 27 9 v).run Try.prog w5 = .ok (.string ⟨#[6, 7, 5, 1, 4, 1, 4, 0, 130, 44, 2, 50, 2, 10, 2, 0, 2, 8, 0, 7, 3, 0, 1, 0, 3, 7, 8, 9]⟩) w5 := run_toStr w5 Try.underlying27 Try.underlying5 Try.underlying9 o5.readsB
  have hD : Calls Try.prog 23 #[v] w5 fun e w' => ∃ bv pv ls, e = .returned (.tuple #[bdV S bv pv, .int .i64 0]) ∧ OwBd w' 37 (Iv w5.heap.size w'.heap.size) bv pv S ls ∧ KpN w5 w' := by
    have := decode_c o5.readsB (by decide)
    unfold DecP DecQ at this
    rw [← HS.out.2.1, (dec_back HS.out.1).1, (dec_back HS.out.1).2] at this
    exact this
  have H5 := Lib.hid (And.intro hcv (H4.out.2.2.thenN k5))
  clear hcv o5 k5
  go_wp2_with (first
    | ((with_reducible show wpList _ _ _ (Oper.mk (some 31) (Op.convert _ _ _) _ _ _ _ :: _) _ _); refine conv_opg H5.out.1 rfl rfl ?_)
    | fail)
  refine hD.mono ?_
  rintro e w6 ⟨bv, pv, ls, rfl, ho, k6⟩
  clear hD
  have hrd := ho.rd
  obtain ⟨bA, bc, rfl, -⟩ := hrd.bl.form
  obtain ⟨pA, pc, rfl, -⟩ := hrd.pl.form
  obtain ⟨w7, hst, hx7, k7, hz7⟩ := bundle_put w6 S bA pA S.bl.length bc S.pl.length pc
  have hl7 := bd_loadN hx7 (by omega) (Kp.refl _ _)
  have hO : Calls Try.prog 29 #[bdV S (.slice bA S.bl.length bc) (.slice pA S.pl.length pc)] w7 fun e w' => ∃ u, e = .returned (.tuple #[.agg #[.int .i64 1, .int .u64 300, .int .u64 2, .int .u64 50, u], .int .u64 4, .bool true, .int .i64 0]) ∧ OwB w' 5 (Iv w7.heap.size w'.heap.size) u [7, 8, 9] ∧ KpN w7 w' := by
    have := open_c (hrd.keepN k7) HS.out.2.2.2.2
    unfold OpenP at this
    rw [HS.out.2.2.1, HS.out.2.2.2.1] at this
    exact this
  have H7 := Lib.hid (And.intro hst (And.intro hl7 (H5.out.2.thenN (k6.thenN k7))))
  clear hst hx7 k7 hz7 hl7 hrd ho k6
  go_wp2_with (first
    | ((with_reducible show wpList _ _ _ (Oper.mk _ (Op.store 34 _ _) _ _ _ _ :: _) _ _); refine wpl_skip rfl (run_store_op H7.out.1 rfl rfl) ?_)
    | ((with_reducible show wpList _ _ _ (Oper.mk (some 40) _ _ _ _ _ :: _) _ _); refine wpl_val rfl (run_load_opv H7.out.2.1 rfl) ?_)
    | fail)
  refine hO.mono ?_
  rintro e w8 ⟨u, rfl, o8, k8⟩
  clear hO
  obtain ⟨uA, uc, hu, -⟩ := o8.readsB.form
  rw [show ([7, 8, 9] : List UInt8).length = 3 from rfl] at hu
  subst hu
  obtain ⟨w9, hw9⟩ : ∃ w9, w8.alloc (.cells #[.int .i64 1, .int .u64 300, .int .u64 2, .int .u64 50, .slice uA 3 uc] 47) = w9 := ⟨_, rfl⟩
  have k9 : KpN w8 w9 := by rw [← hw9]; exact (Kp.refl _ w8).alloc _
  have hF9 : CellsAt w9 w8.heap.size [.int .i64 1, .int .u64 300, .int .u64 2, .int .u64 50, .slice uA 3 uc] := by
    rw [← hw9]
    exact CellsAt.new w8 [.int .i64 1, .int .u64 300, .int .u64 2, .int .u64 50, .slice uA 3 uc] 47
  have hl9 := run_loadAt_rowat (P := Try.prog) hF9.1 Try.underlying47 rfl (by kernel_rfl)
  have k29 := H7.out.2.2.thenN (k8.thenN k9)
  have hIf : Calls Try.prog 31 #[.agg #[.int .i64 1, .int .u64 300, .int .u64 2, .int .u64 50, .slice uA 3 uc], .agg #[.int .i64 1, .int .u64 300, .int .u64 2, .int .u64 50, .slice (some ⟨w.heap.size, 0, none⟩) 3 3]] w9 (TrueP w9) := isFrame_c (s := 1) (ti := 300) (sq := 2) (li := 50) (o8.readsB.keepN k9) (H2.out.2.2.2.2.keepN k29) (by simp)
  have H9 := Lib.hid (And.intro hw9 (And.intro hl9 (And.intro (H2.out.2.2.1 w9 k29) (H2.out.2.2.2.1.thenN k29))))
  clear hw9 k9 hF9 hl9 k29 o8 k8
  go_wp2_with (first
    | ((with_reducible show wpList _ _ _ _ _ (World.alloc w8 _)); rw [H9.out.1])
    | ((with_reducible show wpList _ _ _ (Oper.mk (some 53) _ _ _ _ _ :: _) _ _); refine wpl_vg rfl (run_load_opv H9.out.2.1 rfl) ?_)
    | ((with_reducible show wpList _ _ _ (Oper.mk (some 54) _ _ _ _ _ :: _) _ _); refine wpl_vg rfl (run_load_opv H9.out.2.2.1 rfl) ?_)
    | fail)
  refine hIf.mono ?_
  rintro e wf ⟨rfl, kf⟩
  go_wp2_with fail
  go_ret
  exact ⟨rfl, H9.out.2.2.2.thenN kf⟩
end Go.Proofs.Yteokkpmndfekoaa
