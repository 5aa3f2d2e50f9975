/- BundleWraps: what the call does. -/
import Derived.Test.YteokkpmndfekoaaBN
import Derived.Test.YteokkpmndfekoaaBO
import Derived.Test.YteokkpmndfekoaaBI
namespace Go.Proofs.Yteokkpmndfekoaa
open Go Go.RowKit
set_option maxRecDepth 100000
theorem wrap_size {s : Int} {ti sq li fr to L : Nat} {xs : List UInt8} {nw : Bool} (hL : xs.length = L) (hl : xs.length ≤ 2000000) : bdSize (wrapB s ti sq li fr to xs nw) ≤ 10000000 := by
  unfold wrapB
  split
  · simp [bdSize, wrapD, blkSize]; omega
  · simp [bdSize, noBdl]
set_option maxHeartbeats 12800000 in
theorem wraps_walk {w : World} {s : Int} {ti sq li fr to : Nat} {v : Value} {xs : List UInt8} {nw : Bool} (h : RdB w v xs) (hl : xs.length ≤ 2000000) (h1 : U64 ti) (h2 : U64 sq) (h3 : U64 li) (h4 : U64 fr) (h5 : U64 to) :
    Calls Try.prog 4 #[frV s ti sq li v, n64 fr, n64 to, .bool nw] w (TrueP w) := by
  have HH := Lib.hid h
  have HU := Lib.hid (And.intro h1 (And.intro h2 (And.intro h3 (And.intro h4 h5))))
  obtain ⟨A, c, rfl, -⟩ := h.form
  obtain ⟨L, hL⟩ : ∃ L, xs.length = L := ⟨_, rfl⟩
  have HLL := Lib.hid (And.intro hL hl)
  rw [hL]
  have kb : KpN w (w.alloc (.cells #[.int .i64 s, n64 ti, n64 sq, n64 li, .slice A L c] 47)) := (Kp.refl _ w).alloc _
  have hx1 := CellsAt.new w [.int .i64 s, n64 ti, n64 sq, n64 li, .slice A L c] 47
  have hz1 : (w.alloc (.cells #[.int .i64 s, n64 ti, n64 sq, n64 li, .slice A L c] 47)).heap.size = w.heap.size + 1 := by simp
  have hl1 := run_loadAt_rowat (P := Try.prog) hx1.1 Try.underlying47 rfl (by kernel_rfl)
  obtain ⟨w1, hw1⟩ : ∃ w1, (w.alloc (.cells #[.int .i64 s, n64 ti, n64 sq, n64 li, .slice A L c] 47)) = w1 := ⟨_, rfl⟩
  rw [show (w.alloc (.cells ([.int .i64 s, n64 ti, n64 sq, n64 li, .slice A L c] : List Value).toArray 47)) = w1 from hw1] at hx1 hl1
  rw [hw1] at kb hz1
  have hca := CellsAt.new w1 [.int .i64 0, .int .u64 0, .int .u64 0, .int .u64 0, .slice none 0 0] 47
  have ka : KpN w1 (w1.alloc (.cells #[.int .i64 0, .int .u64 0, .int .u64 0, .int .u64 0, .slice none 0 0] 47)) := (Kp.refl _ _).alloc _
  have hza : (w1.alloc (.cells #[.int .i64 0, .int .u64 0, .int .u64 0, .int .u64 0, .slice none 0 0] 47)).heap.size = w1.heap.size + 1 := by simp
  have kc := Kp.setCells w1.heap.size [.int .i64 s, n64 ti, n64 sq, n64 li, .slice A L c] 0 (w1.alloc (.cells #[.int .i64 0, .int .u64 0, .int .u64 0, .int .u64 0, .slice none 0 0] 47))
  have hst2 := run_storeAt_mid (P := Try.prog) (w1.alloc (.cells #[.int .i64 0, .int .u64 0, .int .u64 0, .int .u64 0, .slice none 0 0] 47)) w1.heap.size 0 47 #[.int .i64 s, n64 ti, n64 sq, n64 li, .slice A L c] (hca.there _ (Nat.le_refl _)) (by kernel_rfl) (by kernel_rfl)
  have hg2 := hca.put (ds := [.int .i64 s, n64 ti, n64 sq, n64 li, .slice A L c]) rfl
  have k12 : KpN w1 ((w1.alloc (.cells #[.int .i64 0, .int .u64 0, .int .u64 0, .int .u64 0, .slice none 0 0] 47)).setCells w1.heap.size 0 [.int .i64 s, n64 ti, n64 sq, n64 li, .slice A L c]) := ka.fresh kc (fun i e => by omega)
  have hz2 : w1.heap.size < ((w1.alloc (.cells #[.int .i64 0, .int .u64 0, .int .u64 0, .int .u64 0, .slice none 0 0] 47)).setCells w1.heap.size 0 [.int .i64 s, n64 ti, n64 sq, n64 li, .slice A L c]).heap.size := by have := kc.size; omega
  clear ka hza kc hca
  obtain ⟨w2, hw2⟩ : ∃ w2, ((w1.alloc (.cells #[.int .i64 0, .int .u64 0, .int .u64 0, .int .u64 0, .slice none 0 0] 47)).setCells w1.heap.size 0 [.int .i64 s, n64 ti, n64 sq, n64 li, .slice A L c]) = w2 := ⟨_, rfl⟩
  rw [hw2] at hg2 k12 hz2
  have hx2 := hx1.keep (by omega) k12 (fun x => x)
  have b24 : w2.cell? ⟨w.heap.size, 4, none⟩ = some (.slice A L c) := hx2.at_ 4 rfl
  have k02 := kb.thenN k12
  have HA := Lib.hid (And.intro hw1 (And.intro hl1 (And.intro hst2 hw2)))
  have HG := Lib.hid (And.intro hg2 (And.intro hx2 (And.intro hz1 (And.intro hz2 k02))))
  clear hw1 hl1 hst2 hw2 hg2 hx2 hz1 hz2 hx1 h h1 h2 h3 h4 h5 hL hl kb k12 k02
  go_enter Try.func4, Try.ntmps4
  go_wp2_with (first
    | ((with_reducible show wpList _ _ _ (Oper.mk _ (Op.load 47 _) _ _ _ _ :: _) _ _); rw [HA.out.1]; refine wpl_val rfl (run_load_opv HA.out.2.1 rfl) ?_)
    | ((with_reducible show wpList _ _ _ (Oper.mk _ (Op.store 47 _ _) _ _ _ _ :: _) _ _); refine wpl_skip rfl (run_store_op HA.out.2.2.1 rfl rfl) ?_; rw [HA.out.2.2.2]))
  have hb := bytes_c (HH.out.keepN HG.out.2.2.2.2) (by have := HLL.out.2; omega)
  rw [HLL.out.1] at hb
  refine hb.mono ?_
  rintro e w3 ⟨u, rfl, hm, hown, k23⟩
  obtain ⟨uA, uc, rfl, -⟩ := hm.rd.form
  rw [HLL.out.1] at hm hown ⊢
  obtain ⟨hg2, hx2, hz1, hz2, k02⟩ := HG.out
  have hz3 := k23.size
  have hg3 := hg2.keep hz2 k23 (fun x => x)
  have hx3 := hx2.keep (by omega) k23 (fun x => x)
  have c34 : w3.cell? ⟨w1.heap.size, 4, none⟩ = some (.slice A L c) := hg3.at_ 4 rfl
  have f34 : w3.frozen? ⟨w1.heap.size, 4, none⟩ = false := hg3.2 4
  have hg4 : CellsAt (w3.setCell ⟨w1.heap.size, 4, none⟩ (.slice uA L uc)) w1.heap.size [.int .i64 s, n64 ti, n64 sq, n64 li, .slice uA L uc] := hg3.set 4 (.slice uA L uc) (by simp)
  have k34 : Kp (fun x => x = w1.heap.size) w3 (w3.setCell ⟨w1.heap.size, 4, none⟩ (.slice uA L uc)) := kp1_set3 _ _ _
  have hx4 := hx3.keep (by omega) k34 (fun e => by omega)
  have hm4 := hm.keep k34 (fun b hb' e => by have := (hown b hb').1; omega)
  have k04 : KpN w (w3.setCell ⟨w1.heap.size, 4, none⟩ (.slice uA L uc)) := (k02.thenN k23).fresh k34 (fun i e => by omega)
  have hz4 := k34.size
  have hl4 := run_loadAt_rowat (P := Try.prog) hg4.1 Try.underlying47 rfl (by kernel_rfl)
  obtain ⟨w4, hw4⟩ : ∃ w4, (w3.setCell ⟨w1.heap.size, 4, none⟩ (.slice uA L uc)) = w4 := ⟨_, rfl⟩
  rw [hw4] at hg4 hx4 hm4 k04 hz4
  have HL4 := Lib.hid (And.intro hw4 hl4)
  have hwr := wrap_c (s := s) (ti := ti) (sq := sq) (li := li) (fr := fr) (to := to) (nw := nw) hm4.rd (by have := HLL.out.2; omega) HU.out.1 HU.out.2.1 HU.out.2.2.1 HU.out.2.2.2.1 HU.out.2.2.2.2
  have H4 := Lib.hid (And.intro hg4 (And.intro hx4 (And.intro hm4 k04)))
  have HZ := Lib.hid (And.intro hz1 (And.intro hz2 (And.intro hz3 hz4)))
  have HWR := Lib.hid hwr
  clear hg2 hx2 hz1 hz2 hz3 hz4 hg3 hx3 hg4 hx4 hm4 hm hown k02 k04 k23 k34 hl4 hw4 hb hwr b24
  go_wp2_with (first
    | ((with_reducible show wpList _ _ _ (Oper.mk _ (Op.load 47 _) _ _ _ _ :: _) _ _); refine wpl_val rfl (run_load_opv HL4.out.2 rfl) ?_; rw [HL4.out.1]))
  refine HWR.out.mono ?_
  obtain ⟨B, hB⟩ : ∃ B, wrapB s ti sq li fr to xs nw = B := ⟨_, rfl⟩
  obtain ⟨f, hf⟩ : ∃ f, wrapF s ti sq li fr to xs = f := ⟨_, rfl⟩
  have hsz : bdSize B ≤ 10000000 := by rw [← hB]; exact wrap_size HLL.out.1 HLL.out.2
  have HBF := Lib.hid (And.intro hB hf)
  rintro e w5 ⟨bv, pv, he5, hr5, k45⟩
  rw [hB] at he5 hr5
  rw [hf] at he5
  subst he5
  obtain ⟨bA, bc, rfl, -⟩ := hr5.bl.form
  obtain ⟨pA, pc, rfl, -⟩ := hr5.pl.form
  obtain ⟨p, hp⟩ : ∃ p, B.bl.length = p := ⟨_, rfl⟩
  obtain ⟨q, hq⟩ : ∃ q, B.pl.length = q := ⟨_, rfl⟩
  rw [hp, hq] at hr5 ⊢
  clear hB hf
  obtain ⟨hg4, hx4, hm4, k04⟩ := H4.out
  have hz5 := k45.size
  have hca := CellsAt.new w5 [.int .u64 0, .int .u64 0, .int .u64 0, .int .u64 0, .int .u64 0, .int .u64 0, .int .u64 0, .int .u64 0, .int .u64 0, .int .u64 0, .slice none 0 0, .slice none 0 0] 34
  have ka : KpN w5 (w5.alloc (.cells #[.int .u64 0, .int .u64 0, .int .u64 0, .int .u64 0, .int .u64 0, .int .u64 0, .int .u64 0, .int .u64 0, .int .u64 0, .int .u64 0, .slice none 0 0, .slice none 0 0] 34)) := (Kp.refl _ _).alloc _
  have hza : (w5.alloc (.cells #[.int .u64 0, .int .u64 0, .int .u64 0, .int .u64 0, .int .u64 0, .int .u64 0, .int .u64 0, .int .u64 0, .int .u64 0, .int .u64 0, .slice none 0 0, .slice none 0 0] 34)).heap.size = w5.heap.size + 1 := by simp
  have kc := Kp.setCells w5.heap.size [n64 B.fl, n64 B.e0, n64 B.e1, n64 B.e2, n64 B.e3, n64 B.e4, n64 B.e5, n64 B.ti, n64 B.sq, n64 B.li, .slice bA p bc, .slice pA q pc] 0 (w5.alloc (.cells #[.int .u64 0, .int .u64 0, .int .u64 0, .int .u64 0, .int .u64 0, .int .u64 0, .int .u64 0, .int .u64 0, .int .u64 0, .int .u64 0, .slice none 0 0, .slice none 0 0] 34))
  have hst6 := run_storeAt_mid (P := Try.prog) (w5.alloc (.cells #[.int .u64 0, .int .u64 0, .int .u64 0, .int .u64 0, .int .u64 0, .int .u64 0, .int .u64 0, .int .u64 0, .int .u64 0, .int .u64 0, .slice none 0 0, .slice none 0 0] 34)) w5.heap.size 0 34 #[n64 B.fl, n64 B.e0, n64 B.e1, n64 B.e2, n64 B.e3, n64 B.e4, n64 B.e5, n64 B.ti, n64 B.sq, n64 B.li, .slice bA p bc, .slice pA q pc] (hca.there _ (Nat.le_refl _)) (by kernel_rfl) (by kernel_rfl)
  have hc6 := hca.put (ds := [n64 B.fl, n64 B.e0, n64 B.e1, n64 B.e2, n64 B.e3, n64 B.e4, n64 B.e5, n64 B.ti, n64 B.sq, n64 B.li, .slice bA p bc, .slice pA q pc]) rfl
  have k56 : KpN w5 ((w5.alloc (.cells #[.int .u64 0, .int .u64 0, .int .u64 0, .int .u64 0, .int .u64 0, .int .u64 0, .int .u64 0, .int .u64 0, .int .u64 0, .int .u64 0, .slice none 0 0, .slice none 0 0] 34)).setCells w5.heap.size 0 [n64 B.fl, n64 B.e0, n64 B.e1, n64 B.e2, n64 B.e3, n64 B.e4, n64 B.e5, n64 B.ti, n64 B.sq, n64 B.li, .slice bA p bc, .slice pA q pc]) := ka.fresh kc (fun i e => by omega)
  have hz6 : w5.heap.size < ((w5.alloc (.cells #[.int .u64 0, .int .u64 0, .int .u64 0, .int .u64 0, .int .u64 0, .int .u64 0, .int .u64 0, .int .u64 0, .int .u64 0, .int .u64 0, .slice none 0 0, .slice none 0 0] 34)).setCells w5.heap.size 0 [n64 B.fl, n64 B.e0, n64 B.e1, n64 B.e2, n64 B.e3, n64 B.e4, n64 B.e5, n64 B.ti, n64 B.sq, n64 B.li, .slice bA p bc, .slice pA q pc]).heap.size := by have := kc.size; omega
  clear ka hza kc hca
  obtain ⟨w6, hw6⟩ : ∃ w6, ((w5.alloc (.cells #[.int .u64 0, .int .u64 0, .int .u64 0, .int .u64 0, .int .u64 0, .int .u64 0, .int .u64 0, .int .u64 0, .int .u64 0, .int .u64 0, .slice none 0 0, .slice none 0 0] 34)).setCells w5.heap.size 0 [n64 B.fl, n64 B.e0, n64 B.e1, n64 B.e2, n64 B.e3, n64 B.e4, n64 B.e5, n64 B.ti, n64 B.sq, n64 B.li, .slice bA p bc, .slice pA q pc]) = w6 := ⟨_, rfl⟩
  rw [hw6] at hc6 k56 hz6
  have k46 := k45.thenN k56
  have hx6 := hx4.keep (by have := HZ.out; omega) k46 (fun x => x)
  have hg6 := hg4.keep (by have := HZ.out; omega) k46 (fun x => x)
  have hl6 := run_loadAt_rowat (P := Try.prog) hx6.1 Try.underlying47 rfl (by kernel_rfl)
  have hwr := rwrap_c (s := s) (ti := ti) (sq := sq) (li := li) (fr := fr) (to := to) (nw := nw) (HH.out.keepN (k04.thenN k46)) (by have := HLL.out.2; omega) HU.out.1 HU.out.2.1 HU.out.2.2.1 HU.out.2.2.2.1 HU.out.2.2.2.2
  rw [HLL.out.1] at hwr
  have HWQ := Lib.hid hwr
  have HL6 := Lib.hid (And.intro hst6 (And.intro hw6 hl6))
  have H6 := Lib.hid (And.intro hc6 (And.intro hx6 (And.intro hg6 (And.intro (hm4.keepN k46) (And.intro (hr5.keepN k56) (k04.thenN k46))))))
  have HZ6 := Lib.hid (And.intro hz5 hz6)
  clear hst6 hw6 hl6 hc6 hx6 hg6 hm4 hr5 k04 k46 k45 k56 hg4 hx4 hwr hz5 hz6
  go_wp2_with (first
    | ((with_reducible show wpList _ _ _ (Oper.mk _ (Op.store 34 _ _) _ _ _ _ :: _) _ _); refine wpl_skip rfl (run_store_op HL6.out.1 rfl rfl) ?_; rw [HL6.out.2.1])
    | ((with_reducible show wpList _ _ _ (Oper.mk _ (Op.load 47 _) _ _ _ _ :: _) _ _); refine wpl_val rfl (run_load_opv HL6.out.2.2 rfl) ?_))
  refine HWQ.out.mono ?_
  rintro e w7 ⟨cv, qv, he7, hr7, k67⟩
  rw [HBF.out.1] at he7 hr7
  rw [HBF.out.2] at he7
  subst he7
  obtain ⟨cA, cc, rfl, -⟩ := hr7.bl.form
  obtain ⟨qA, qc, rfl, -⟩ := hr7.pl.form
  rw [hp, hq] at hr7 ⊢
  obtain ⟨hc6, hx6, hg6, hm6, hr6, k06⟩ := H6.out
  have hz7 := k67.size
  have hca := CellsAt.new w7 [.int .u64 0, .int .u64 0, .int .u64 0, .int .u64 0, .int .u64 0, .int .u64 0, .int .u64 0, .int .u64 0, .int .u64 0, .int .u64 0, .slice none 0 0, .slice none 0 0] 29
  have ka : KpN w7 (w7.alloc (.cells #[.int .u64 0, .int .u64 0, .int .u64 0, .int .u64 0, .int .u64 0, .int .u64 0, .int .u64 0, .int .u64 0, .int .u64 0, .int .u64 0, .slice none 0 0, .slice none 0 0] 29)) := (Kp.refl _ _).alloc _
  have hza : (w7.alloc (.cells #[.int .u64 0, .int .u64 0, .int .u64 0, .int .u64 0, .int .u64 0, .int .u64 0, .int .u64 0, .int .u64 0, .int .u64 0, .int .u64 0, .slice none 0 0, .slice none 0 0] 29)).heap.size = w7.heap.size + 1 := by simp
  have kc := Kp.setCells w7.heap.size [n64 B.fl, n64 B.e0, n64 B.e1, n64 B.e2, n64 B.e3, n64 B.e4, n64 B.e5, n64 B.ti, n64 B.sq, n64 B.li, .slice cA p cc, .slice qA q qc] 0 (w7.alloc (.cells #[.int .u64 0, .int .u64 0, .int .u64 0, .int .u64 0, .int .u64 0, .int .u64 0, .int .u64 0, .int .u64 0, .int .u64 0, .int .u64 0, .slice none 0 0, .slice none 0 0] 29))
  have hst8 := run_storeAt_mid (P := Try.prog) (w7.alloc (.cells #[.int .u64 0, .int .u64 0, .int .u64 0, .int .u64 0, .int .u64 0, .int .u64 0, .int .u64 0, .int .u64 0, .int .u64 0, .int .u64 0, .slice none 0 0, .slice none 0 0] 29)) w7.heap.size 0 29 #[n64 B.fl, n64 B.e0, n64 B.e1, n64 B.e2, n64 B.e3, n64 B.e4, n64 B.e5, n64 B.ti, n64 B.sq, n64 B.li, .slice cA p cc, .slice qA q qc] (hca.there _ (Nat.le_refl _)) (by kernel_rfl) (by kernel_rfl)
  have hc8 := hca.put (ds := [n64 B.fl, n64 B.e0, n64 B.e1, n64 B.e2, n64 B.e3, n64 B.e4, n64 B.e5, n64 B.ti, n64 B.sq, n64 B.li, .slice cA p cc, .slice qA q qc]) rfl
  have k78 : KpN w7 ((w7.alloc (.cells #[.int .u64 0, .int .u64 0, .int .u64 0, .int .u64 0, .int .u64 0, .int .u64 0, .int .u64 0, .int .u64 0, .int .u64 0, .int .u64 0, .slice none 0 0, .slice none 0 0] 29)).setCells w7.heap.size 0 [n64 B.fl, n64 B.e0, n64 B.e1, n64 B.e2, n64 B.e3, n64 B.e4, n64 B.e5, n64 B.ti, n64 B.sq, n64 B.li, .slice cA p cc, .slice qA q qc]) := ka.fresh kc (fun i e => by omega)
  have hz8 : w7.heap.size < ((w7.alloc (.cells #[.int .u64 0, .int .u64 0, .int .u64 0, .int .u64 0, .int .u64 0, .int .u64 0, .int .u64 0, .int .u64 0, .int .u64 0, .int .u64 0, .slice none 0 0, .slice none 0 0] 29)).setCells w7.heap.size 0 [n64 B.fl, n64 B.e0, n64 B.e1, n64 B.e2, n64 B.e3, n64 B.e4, n64 B.e5, n64 B.ti, n64 B.sq, n64 B.li, .slice cA p cc, .slice qA q qc]).heap.size := by have := kc.size; omega
  clear ka hza kc hca
  obtain ⟨w8, hw8⟩ : ∃ w8, ((w7.alloc (.cells #[.int .u64 0, .int .u64 0, .int .u64 0, .int .u64 0, .int .u64 0, .int .u64 0, .int .u64 0, .int .u64 0, .int .u64 0, .int .u64 0, .slice none 0 0, .slice none 0 0] 29)).setCells w7.heap.size 0 [n64 B.fl, n64 B.e0, n64 B.e1, n64 B.e2, n64 B.e3, n64 B.e4, n64 B.e5, n64 B.ti, n64 B.sq, n64 B.li, .slice cA p cc, .slice qA q qc]) = w8 := ⟨_, rfl⟩
  rw [hw8] at hc8 k78 hz8
  have k68 := k67.thenN k78
  have k08 := k06.thenN k68
  have hlA := run_loadAt_rowat (P := Try.prog) ((hc6.keep (by have := HZ6.out; omega) k68 (fun x => x)).1) Try.underlying34 rfl (by kernel_rfl)
  have hlB := run_loadAt_rowat (P := Try.prog) hc8.1 Try.underlying29 rfl (by kernel_rfl)
  have his := is_c (hr6.keepN k68) (hr7.keepN k78) hsz
  have HIS := Lib.hid his
  have H8 := Lib.hid (And.intro (hx6.keep (by have := HZ.out; have := HZ6.out; omega) k68 (fun x => x)) (And.intro (hg6.keep (by have := HZ.out; have := HZ6.out; omega) k68 (fun x => x)) (And.intro (hm6.keepN k68) k08)))
  have HL8 := Lib.hid (And.intro hst8 (And.intro hw8 (And.intro hlA hlB)))
  have HZ8 := Lib.hid (And.intro hz7 hz8)
  clear hst8 hw8 hlA hlB his hc8 hx6 hg6 hm6 hr6 hr7 hc6 k06 k68 k08 k67 k78 hz7 hz8
  go_wp2_with (first
    | ((with_reducible show wpList _ _ _ (Oper.mk _ (Op.store 29 _ _) _ _ _ _ :: _) _ _); refine wpl_skip rfl (run_store_op HL8.out.1 rfl rfl) ?_; rw [HL8.out.2.1])
    | ((with_reducible show wpList _ _ _ (Oper.mk _ (Op.load 34 _) _ _ _ _ :: _) _ _); refine wpl_valg (by kernel_rfl) (run_load_opv HL8.out.2.2.1 rfl) ?_)
    | ((with_reducible show wpList _ _ _ (Oper.mk _ (Op.load 29 _) _ _ _ _ :: _) _ _); refine wpl_valg (by kernel_rfl) (run_load_opv HL8.out.2.2.2 rfl) ?_))
  refine HIS.out.mono ?_
  rintro e w9 ⟨rfl, k89⟩
  obtain ⟨hx8, hg8, hm8, k08⟩ := H8.out
  have cx : w9.cell? ⟨w.heap.size, 4, none⟩ = some (.slice A L c) := (hx8.keep (by have := HZ.out; have := HZ6.out; have := HZ8.out; omega) k89 (fun x => x)).at_ 4 rfl
  have cg : w9.cell? ⟨w1.heap.size, 4, none⟩ = some (.slice uA L uc) := (hg8.keep (by have := HZ.out; have := HZ6.out; have := HZ8.out; omega) k89 (fun x => x)).at_ 4 rfl
  have hv9 := HH.out.keepN (k08.thenN k89)
  rw [HLL.out.1] at hv9
  have hst := stays_c (hm8.keepN k89) hv9 (by have := HLL.out.2; omega)
  have HS := Lib.hid hst
  have k09 := k08.thenN k89
  clear hx8 hg8 hm8 hst hv9
  go_wp2_with fail
  refine HS.out.mono ?_
  rintro e w10 ⟨rfl, k910⟩
  have k010 := k09.thenN k910
  go_wp2_with fail
  (try simp only [Exit.inBlock, Exit.then])
  go_ret
  exact ⟨rfl, k010⟩
end Go.Proofs.Yteokkpmndfekoaa
