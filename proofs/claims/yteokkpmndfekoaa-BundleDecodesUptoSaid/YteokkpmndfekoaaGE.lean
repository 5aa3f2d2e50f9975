/- the document's Decode. -/
import Derived.Test.YteokkpmndfekoaaGC
import Derived.Test.YteokkpmndfekoaaGD
namespace Go.Proofs.Yteokkpmndfekoaa
open Go Go.RowKit Go.ChangeShapes Go.WideShapes Go.ChangeAt
set_option maxRecDepth 100000

theorem rblkInfo : (Try.prog.info? 40).map (fun i => (i.zero, i.size, i.bytes)) = some (some (.agg #[.int .u64 0, .int .u64 0, .int .u64 0, .slice none 0 0]), 4, 48) := by kernel_rfl
def RDecQ (B : Bdl) (E : Int) (w : World) (e : Ending) (w' : World) : Prop :=
  ∃ bv pv, e = .returned (.tuple #[bdV B bv pv, .int .i64 E]) ∧ RdBd w' bv pv B ∧ KpN w w'
theorem run_oneRBlk {x : Operand} {t n f : Int} {A : Option Addr} {l c : Nat} {a : Act} {dst : Option Tmp} {ty : TypeId} {pos : String} {af : Array Edge} {gd : Option (Nat × Bool)} {w : World}
    (hx : a.eval x = .agg #[.int .u64 t, .int .u64 n, .int .u64 f, .slice A l c]) :
    (execOp a.eval { dst := dst, op := .buildSlice 26 1 #[(0, x)], type := ty, pos := pos, after := af, guard := gd }).run Try.prog w = .ok (.value (.slice (some ⟨w.heap.size, 0, none⟩) 1 1)) (w.alloc (.cells #[.int .u64 t, .int .u64 n, .int .u64 f, .slice A l c] 40)) := by
  unfold execOp
  simp only [List.map_toArray, List.map_cons, List.map_nil, hx, Sem.run_bind]
  have : (Instr.buildSlice 26 1 #[(0, .agg #[.int .u64 t, .int .u64 n, .int .u64 f, .slice A l c])]).run Try.prog w = .ok (.slice (some ⟨w.heap.size, 0, none⟩) 1 1) (w.alloc (.cells #[.int .u64 t, .int .u64 n, .int .u64 f, .slice A l c] 40)) := by
    kernel_rfl
  rw [this]
  simp only [Result.andThen_ok, Sem.run_pure]
theorem run_build0 {a : Act} {dst : Option Tmp} {ty : TypeId} {pos : String} {af : Array Edge} {gd : Option (Nat × Bool)} (w : World) :
    (execOp a.eval { dst := dst, op := .build 29 #[], type := ty, pos := pos, after := af, guard := gd }).run Try.prog w = .ok (.value (.agg zeros12)) w := by
  unfold execOp
  simp only [List.map_toArray, List.map_nil]
  kernel_rfl
set_option maxHeartbeats 25600000 in
theorem rdecode_c {w : World} {v : Value} {xs : List UInt8} (h : RdB w v xs) (hl : xs.length ≤ 100000000) : Calls Try.prog 24 #[v] w (RDecQ (decB xs) (decE xs) w) := by
  obtain ⟨A, c, rfl, -⟩ := h.form
  obtain ⟨L, hL⟩ : ∃ L, xs.length = L := ⟨_, rfl⟩
  have hok := decB_ok xs
  have hE0 : decE xs = if 1024 < xs.length then 81 else (decAll xs).2.2 := rfl
  have hB0 : decB xs = if decE xs = 0 then (decAll xs).1 else noBdl := rfl
  obtain ⟨DE, hDE⟩ : ∃ z, decE xs = z := ⟨_, rfl⟩
  obtain ⟨DB, hDB⟩ : ∃ z, decB xs = z := ⟨_, rfl⟩
  rw [hDE] at hE0 hB0 ⊢
  rw [hDB] at hB0 hok ⊢
  obtain ⟨fs, a0, f0, e0⟩ : ∃ x y z, rTake xs 0 0 1 = (x, y, z) := ⟨_, _, _, rfl⟩
  obtain ⟨fv, hfv⟩ : ∃ z, (if fs = [6] then f0 else rF f0 20) = z := ⟨_, rfl⟩
  obtain ⟨fl, a', fx, ef⟩ : ∃ x y z, rNum xs a0 fv 281474976710655 = (x, y, z) := ⟨_, _, _, rfl⟩
  obtain ⟨f', hf'⟩ : ∃ z, rAsk (decide (7 < fl)) fx = z := ⟨_, rfl⟩
  obtain ⟨z1, a1, f1, e1⟩ : ∃ x y z, rNum xs a' f' 281474976710655 = (x, y, z) := ⟨_, _, _, rfl⟩
  obtain ⟨z2, a2, f2, e2⟩ : ∃ x y z, rNum xs a1 f1 281474976710655 = (x, y, z) := ⟨_, _, _, rfl⟩
  obtain ⟨z3, a3, f3, e3⟩ : ∃ x y z, rNum xs a2 f2 281474976710655 = (x, y, z) := ⟨_, _, _, rfl⟩
  obtain ⟨z4, a4, f4, e4⟩ : ∃ x y z, rNum xs a3 f3 281474976710655 = (x, y, z) := ⟨_, _, _, rfl⟩
  obtain ⟨z5, a5, f5, e5⟩ : ∃ x y z, rNum xs a4 f4 281474976710655 = (x, y, z) := ⟨_, _, _, rfl⟩
  obtain ⟨z6, a6, f6, e6⟩ : ∃ x y z, rNum xs a5 f5 281474976710655 = (x, y, z) := ⟨_, _, _, rfl⟩
  obtain ⟨z7, a7, f7, e7⟩ : ∃ x y z, rNum xs a6 f6 281474976710655 = (x, y, z) := ⟨_, _, _, rfl⟩
  obtain ⟨z8, a8, f8, e8⟩ : ∃ x y z, rNum xs a7 f7 281474976710655 = (x, y, z) := ⟨_, _, _, rfl⟩
  obtain ⟨z9, a9, f9, e9⟩ : ∃ x y z, rNum xs a8 f8 281474976710655 = (x, y, z) := ⟨_, _, _, rfl⟩
  obtain ⟨n, an, fm, en⟩ : ∃ x y z, rNum xs a9 f9 281474976710655 = (x, y, z) := ⟨_, _, _, rfl⟩
  obtain ⟨fn, hfn⟩ : ∃ z, rAsk (decide (8 < n)) fm = z := ⟨_, rfl⟩
  obtain ⟨Bl, ab, fb, eb⟩ : ∃ x y z, decBlks xs n [] an fn = (x, y, z) := ⟨_, _, _, rfl⟩
  obtain ⟨pl, ap, fp, ep⟩ : ∃ x y z, rBytes xs ab fb 512 = (x, y, z) := ⟨_, _, _, rfl⟩
  obtain ⟨E, eE⟩ : ∃ z, rEnd xs ap fp = z := ⟨_, rfl⟩
  have hall : decAll xs = (⟨fl, z1, z2, z3, z4, z5, z6, z7, z8, z9, Bl, pl⟩, ap, E) := by
    unfold decAll decV
    simp only [e0, hfv, rWant_eq, ef, hf', decNine, e1, e2, e3, e4, e5, e6, e7, e8, e9, en, hfn, eb, ep, eE]
    rfl
  rw [hall] at hE0 hB0
  dsimp only at hE0 hB0
  have h1 := rTake1 xs
  rw [e0] at h1
  dsimp only at h1
  have hn8 : fn = 0 → n ≤ 8 := fun e => by
    have := (rAsk_zero (hfn.trans e)).1
    simpa using this
  have l0 : a0 ≤ xs.length := by have := rTake_le xs 0 0 1 (Nat.zero_le _); rw [e0] at this; exact this
  have lf : a' ≤ xs.length := by have := rNum_le xs a0 fv 281474976710655 l0; rw [ef] at this; exact this
  have l1 : a1 ≤ xs.length := by have := rNum_le xs a' f' 281474976710655 lf; rw [e1] at this; exact this
  have l2 : a2 ≤ xs.length := by have := rNum_le xs a1 f1 281474976710655 l1; rw [e2] at this; exact this
  have l3 : a3 ≤ xs.length := by have := rNum_le xs a2 f2 281474976710655 l2; rw [e3] at this; exact this
  have l4 : a4 ≤ xs.length := by have := rNum_le xs a3 f3 281474976710655 l3; rw [e4] at this; exact this
  have l5 : a5 ≤ xs.length := by have := rNum_le xs a4 f4 281474976710655 l4; rw [e5] at this; exact this
  have l6 : a6 ≤ xs.length := by have := rNum_le xs a5 f5 281474976710655 l5; rw [e6] at this; exact this
  have l7 : a7 ≤ xs.length := by have := rNum_le xs a6 f6 281474976710655 l6; rw [e7] at this; exact this
  have l8 : a8 ≤ xs.length := by have := rNum_le xs a7 f7 281474976710655 l7; rw [e8] at this; exact this
  have l9 : a9 ≤ xs.length := by have := rNum_le xs a8 f8 281474976710655 l8; rw [e9] at this; exact this
  have ln : an ≤ xs.length := by have := rNum_le xs a9 f9 281474976710655 l9; rw [en] at this; exact this
  have hun : U64 n := by have := rNum_lt xs a9 f9 281474976710655 (by omega); rw [en] at this; exact this
  have hpl : pl.length ≤ 100000000 := by have := rBytes_len ep; omega
  have HEQ := Lib.hid (And.intro ef (And.intro en (And.intro ep eE)))
  have HEF := Lib.hid (And.intro hf' hfn)
  have HEB := Lib.hid eb
  have HHB := Lib.hid hn8
  have HLF := Lib.hid (And.intro l0 (And.intro lf ln))
  have HE1 := Lib.hid (And.intro e1 l1)
  have HE2 := Lib.hid (And.intro e2 l2)
  have HE3 := Lib.hid (And.intro e3 l3)
  have HE4 := Lib.hid (And.intro e4 l4)
  have HE5 := Lib.hid (And.intro e5 l5)
  have HE6 := Lib.hid (And.intro e6 l6)
  have HE7 := Lib.hid (And.intro e7 l7)
  have HE8 := Lib.hid (And.intro e8 l8)
  have HE9 := Lib.hid (And.intro e9 l9)
  have HRES := Lib.hid (And.intro hE0 (And.intro hB0 hok))
  obtain ⟨wR, hwR⟩ : ∃ W, w.alloc (.cells zeros12 29) = W := ⟨_, rfl⟩
  have kR : KpN w wR := by rw [← hwR]; exact (Kp.refl _ w).alloc _
  have hzR : wR.heap.size = w.heap.size + 1 := by rw [← hwR]; simp
  have hR : CellsAt wR w.heap.size zeros12.toList := by rw [← hwR]; exact CellsAt.new w zeros12.toList 29
  have HWR := Lib.hid (And.intro hwR (And.intro kR (And.intro hR hzR)))
  have HXL := Lib.hid hL
  rw [hL] at hl h ⊢
  have HX := Lib.hid (And.intro (h.keepN kR) hL)
  clear hDE hDB hall hE0 hB0 hok ef en eb ep eE e1 e2 e3 e4 e5 e6 e7 e8 e9 hwR kR hzR hR h hL hn8 hf' hfn l0 lf l1 l2 l3 l4 l5 l6 l7 l8 l9 ln
  go_enter Try.func24, Try.ntmps24
  by_cases h1024 : 1024 < L
  · have h1024' : (1024 : Int) < (L : Int) := by omega
    have hE0 := HRES.out.1
    rw [HX.out.2, if_pos h1024] at hE0
    have hB0 := HRES.out.2.1
    rw [if_neg (by rw [hE0]; simp)] at hB0
    obtain ⟨w4, hst, hX4, k4, hz4⟩ := box_store HWR.out.2.2.1 29 zeros12 rfl (by kernel_rfl) (by kernel_rfl)
    have HF := Lib.hid (And.intro hE0 (And.intro hB0 (And.intro hst (And.intro hX4 (HWR.out.2.1.fresh k4 (fun i e => by omega))))))
    clear hE0 hB0 hst hX4 k4 hz4 h1024
    go_wp2_with (first
      | ((with_reducible show wpList _ _ _ _ _ (World.alloc w _)); rw [HWR.out.1])
      | ((with_reducible show wpList _ _ _ (Oper.mk _ (Op.store _ _ _) _ _ _ _ :: _) _ _); refine wpl_skip rfl (run_store_op HF.out.2.2.1 rfl rfl) ?_)
      | fail)
    (try simp only [Exit.inBlock, Exit.then])
    refine bodyPost_ret (results_cell_tmp_at rfl _ _ rfl HF.out.2.2.2.1.1 Try.underlying29 rfl (by kernel_rfl)) rfl ?_
    unfold RDecQ
    exact ⟨.slice none 0 0, .slice none 0 0, by rw [HF.out.1, HF.out.2.1]; rfl, by rw [HF.out.2.1]; exact RdBd.ofNone _, HF.out.2.2.2.2⟩
  have h1024' : decide ((1024 : Int) < (L : Int)) = false := by simp; omega
  have H1024 := Lib.hid h1024
  have hnew := rfNew_c HX.out.1 (by have := HX.out.2; omega)
  clear h1024
  go_wp2_with (first
    | ((with_reducible show wpList _ _ _ _ _ (World.alloc w _)); rw [HWR.out.1])
    | fail)
  refine hnew.mono ?_
  rintro e w1 ⟨g, rfl, hR1, k1⟩
  clear hnew h1024'
  have htk := rfTake_c (xs := xs) (a := 0) (f := 0) (n := 1) (by rw [List.drop_zero]; exact hR1) (by omega)
  rw [e0] at htk
  dsimp only at htk
  obtain ⟨F, hF⟩ : ∃ F, (Iv wR.heap.size w1.heap.size) = F := ⟨_, rfl⟩
  have hFl : ∀ i, F i → i < w1.heap.size ∧ i ≠ w.heap.size := fun i hi => by
    rw [← hF] at hi
    have := HWR.out.2.2.2
    exact ⟨hi.2, by have := hi.1; omega⟩
  have hFw : ∀ i, F i → wR.heap.size ≤ i := fun i hi => by rw [← hF] at hi; exact hi.1
  rw [hF] at htk
  have hzl := k1.size
  have HK1 := Lib.hid (And.intro k1 (And.intro hFl hFw))
  clear hR1 k1 hF hFl hFw
  go_wp2_with fail
  refine htk.mono ?_
  rintro e w2 ⟨fvv, rfl, ofs, hR2, k2⟩
  clear htk
  obtain ⟨fA, fc, rfl, -⟩ := ofs.readsB.form
  have H2 := Lib.hid (And.intro hR2 (And.intro k2 ofs.readsB))
  clear hR2 k2 ofs e0
  obtain ⟨bad, hbad, hb0, hb1⟩ : ∃ bad : Bool, fv = rAsk bad f0 ∧ (fs = [] → bad = true) ∧ (∀ x, fs = [x] → bad = !(x == 6)) := by
    rcases h1 with ⟨h1, h2⟩ | ⟨x, h1⟩
    · refine ⟨true, ?_, fun _ => rfl, fun x hx => by rw [h1] at hx; cases hx⟩
      rw [← hfv, if_neg (by rw [h1]; simp)]
      rfl
    · refine ⟨!(x == 6), ?_, (fun e => by rw [h1] at e; cases e), fun y hy => by rw [h1] at hy; injection hy with hy; subst hy; rfl⟩
      rw [← hfv, h1]
      by_cases hx : x = 6
      · subst hx
        rw [if_pos rfl]
        rfl
      · rw [if_neg (by simpa using hx)]
        have : (x == 6) = false := by simpa using hx
        rw [this]
        rfl
  have HBD := Lib.hid (And.intro hbad (And.intro hb0 hb1))
  clear hbad hb0 hb1 hfv
  go_upto_region 5 with fail
  go_cut [5] (fun tv wx => tv = .slice fA fs.length fc ∧ RefC wx F g (xs.drop a0) fv ∧ Kp F w1 wx)
  case first =>
    rcases h1 with ⟨h1, h2⟩ | ⟨x, h1⟩
    · have hv := HBD.out.2.1 h1
      have hwt := rwant_c H2.out.1 false
      subst h1
      subst hv
      clear h2
      go_wp2_with fail
      refine hwt.mono ?_
      rintro e w3 ⟨⟨u3, rfl⟩, hR3, k3⟩
      have H3 := Lib.hid (And.intro hR3 (H2.out.2.1.trans k3 (fun _ _ x => x) (fun _ _ x => x)))
      clear hwt hR3 k3
      go_wp2_with fail
      go_meet
      case rel => exact ⟨rfl, by rw [HBD.out.1]; exact H3.out.1, H3.out.2⟩
    · have hv := HBD.out.2.2 x h1
      subst h1
      obtain ⟨ad, had, hc⟩ := H2.out.2.2.at_ 0 (by simp)
      subst had
      have hc : w2.cell? (ad.add 0) = some (bv x) := hc
      rw [addr_add0] at hc
      simp only [bv] at hc
      have hx6 := ne6 x
      obtain ⟨xv, hxv⟩ : ∃ z, x.toNat = z := ⟨_, rfl⟩
      rw [hxv] at hc hx6
      rw [← hx6] at hv
      have HV := Lib.hid hv
      have hwt := rwant_c H2.out.1 ((xv : Int) == 6)
      clear hv hxv hx6
      go_wp2_with fail
      refine hwt.mono ?_
      rintro e w3 ⟨⟨u3, rfl⟩, hR3, k3⟩
      have H3 := Lib.hid (And.intro hR3 (H2.out.2.1.trans k3 (fun _ _ x => x) (fun _ _ x => x)))
      clear hwt hR3 k3
      go_wp2_with fail
      go_meet
      case rel => exact ⟨rfl, by rw [HBD.out.1, HV.out]; exact H3.out.1, H3.out.2⟩
  case rest =>
  obtain ⟨rfl, hR3, k3⟩ := hcut
  have hw7 := rnum48_c hR3 HLF.out.1
  rw [HEQ.out.1] at hw7
  dsimp only at hw7
  have HC := Lib.hid k3
  clear hR3 k3 H2 h1
  go_wp2_with fail
  refine hw7.mono ?_
  rintro e w4 ⟨rfl, hR4, k4⟩
  clear hw7
  have hz4 := k4.size
  have hz3 := HC.out.size
  have k14 := HC.out.trans k4 (U := F) (fun _ _ x => x) (fun _ _ x => x)
  obtain ⟨wa0, hst, hXa, ka, hza⟩ : ∃ W', (Instr.storeAt 29 (.pointer (some ⟨w4.heap.size, 0, none⟩)) (.agg #[n64 fl, .int .u64 0, .int .u64 0, .int .u64 0, .int .u64 0, .int .u64 0, .int .u64 0, .int .u64 0, .int .u64 0, .int .u64 0, .slice none 0 0, .slice none 0 0])).run Try.prog (w4.alloc (.cells zeros12 29)) = .ok () W' ∧ CellsAt W' w4.heap.size [n64 fl, n64 0, n64 0, n64 0, n64 0, n64 0, n64 0, n64 0, n64 0, n64 0, .slice none 0 0, .slice none 0 0] ∧ KpN w4 W' ∧ W'.heap.size = w4.heap.size + 1 := by
    obtain ⟨W', h1, h2, h3, h4⟩ := box_store (CellsAt.new w4 zeros12.toList 29) 29 #[n64 fl, .int .u64 0, .int .u64 0, .int .u64 0, .int .u64 0, .int .u64 0, .int .u64 0, .int .u64 0, .int .u64 0, .int .u64 0, .slice none 0 0, .slice none 0 0] rfl (by kernel_rfl) (by kernel_rfl)
    have hz : (w4.alloc (.cells zeros12 29)).heap.size = w4.heap.size + 1 := by simp
    exact ⟨W', h1, h2, ((Kp.refl (fun _ => False) w4).alloc _).fresh h3 (fun i e => by omega), by rw [h4, hz]⟩
  obtain ⟨X, hXX⟩ : ∃ X, w4.heap.size = X := ⟨_, rfl⟩
  have hmz : RQ w1 wa0 F g xs a' fx X w.heap.size [n64 fl, n64 0, n64 0, n64 0, n64 0, n64 0, n64 0, n64 0, n64 0, n64 0, .slice none 0 0, .slice none 0 0] zeros12.toList := by
    have hRR : CellsAt w1 w.heap.size zeros12.toList := HWR.out.2.2.1.keep (by have := HWR.out.2.2.2; omega) HK1.out.1 (fun x => x)
    have hRR4 := hRR.keep (by have := HWR.out.2.2.2; omega) k14 (fun hf => (HK1.out.2.1 _ hf).2 rfl)
    rw [hXX] at hXa hza
    exact ⟨hR4.keepN ka, HLF.out.2.1, hXa, hRR4.keep (by have := HWR.out.2.2.2; omega) ka (fun x => x), k14.thenN ka, ⟨by omega, by have := HWR.out.2.2.2; omega, by have := HWR.out.2.2.2; omega, .inr (fun hf => (HK1.out.2.1 _ hf).2 rfl), by omega⟩, fun i hi => (HK1.out.2.1 i hi).1⟩
  have x0 := hmz.x.at_ 0 rfl
  have hwt := rwant_c hmz.rd (decide ((fl : Int) ≤ 7))
  rw [show rAsk (!decide ((fl : Int) ≤ 7)) fx = f' by rw [← HEF.out.1]; congr 1; rw [← decide_not]; exact decide_eq_decide.2 (by omega)] at hwt
  have HST := Lib.hid (And.intro hst hXX)
  have HMz := Lib.hid hmz
  clear hR4 k4 k14 hst hXa ka hza hmz HC hz3 hz4 hXX
  go_wp2_with (first
    | ((with_reducible show wpList _ _ _ (Oper.mk _ (Op.store 29 _ _) _ _ _ _ :: _) _ _); refine wpl_skip rfl (run_store_op HST.out.1 rfl rfl) ?_; rw [HST.out.2])
    | fail)
  refine hwt.mono ?_
  rintro e wq ⟨⟨uq, rfl⟩, hRq, kq⟩
  clear hwt x0
  have hm0 := HMz.out.call hRq HMz.out.le kq
  have HM0 := Lib.hid hm0
  have hn1 := rnum48_c hm0.rd hm0.le
  rw [HE1.out.1] at hn1
  dsimp only at hn1
  clear hRq kq hm0 HMz
  go_wp2_with fail
  refine wp_loop_rounds 7 ?_
  rw [rounds_succ]
  go_wp2_with fail
  refine hn1.mono ?_
  rintro e wa1 ⟨rfl, hR1, ka1⟩
  clear hn1
  have hm := HM0.out.call hR1 HE1.out.2 ka1
  have s0 := hm.x.at_ 1 rfl
  have sf := hm.x.2 1
  have hm2 : RQ w1 (wa1.setCell ⟨X, 1, none⟩ (n64 z1)) F g xs a1 f1 X w.heap.size [n64 fl, n64 z1, n64 0, n64 0, n64 0, n64 0, n64 0, n64 0, n64 0, n64 0, .slice none 0 0, .slice none 0 0] zeros12.toList := hm.set 1 (n64 z1) (by simp)
  obtain ⟨wb1, hw⟩ : ∃ W, wa1.setCell ⟨X, 1, none⟩ (n64 z1) = W := ⟨_, rfl⟩
  rw [hw] at hm2
  have HS1 := Lib.hid hw
  have HM1 := Lib.hid hm2
  have hn2 := rnum48_c hm2.rd hm2.le
  rw [HE2.out.1] at hn2
  dsimp only at hn2
  clear hR1 ka1 hm hm2 hw
  go_wp2_with (first
    | ((with_reducible show wpList _ _ _ _ _ (World.setCell wa1 _ _)); rw [HS1.out])
    | fail)
  (try rw [HS1.out])
  rw [rounds_succ]
  go_wp2_with (first
    | ((with_reducible show wpList _ _ _ _ _ (World.setCell wa1 _ _)); rw [HS1.out])
    | fail)
  clear s0 sf
  refine hn2.mono ?_
  rintro e wa2 ⟨rfl, hR2, ka2⟩
  clear hn2
  have hm := HM1.out.call hR2 HE2.out.2 ka2
  have s0 := hm.x.at_ 2 rfl
  have sf := hm.x.2 2
  have hm2 : RQ w1 (wa2.setCell ⟨X, 2, none⟩ (n64 z2)) F g xs a2 f2 X w.heap.size [n64 fl, n64 z1, n64 z2, n64 0, n64 0, n64 0, n64 0, n64 0, n64 0, n64 0, .slice none 0 0, .slice none 0 0] zeros12.toList := hm.set 2 (n64 z2) (by simp)
  obtain ⟨wb2, hw⟩ : ∃ W, wa2.setCell ⟨X, 2, none⟩ (n64 z2) = W := ⟨_, rfl⟩
  rw [hw] at hm2
  have HS2 := Lib.hid hw
  have HM2 := Lib.hid hm2
  have hn3 := rnum48_c hm2.rd hm2.le
  rw [HE3.out.1] at hn3
  dsimp only at hn3
  clear hR2 ka2 hm hm2 hw
  go_wp2_with (first
    | ((with_reducible show wpList _ _ _ _ _ (World.setCell wa2 _ _)); rw [HS2.out])
    | fail)
  (try rw [HS2.out])
  rw [rounds_succ]
  go_wp2_with (first
    | ((with_reducible show wpList _ _ _ _ _ (World.setCell wa2 _ _)); rw [HS2.out])
    | fail)
  clear s0 sf
  refine hn3.mono ?_
  rintro e wa3 ⟨rfl, hR3, ka3⟩
  clear hn3
  have hm := HM2.out.call hR3 HE3.out.2 ka3
  have s0 := hm.x.at_ 3 rfl
  have sf := hm.x.2 3
  have hm2 : RQ w1 (wa3.setCell ⟨X, 3, none⟩ (n64 z3)) F g xs a3 f3 X w.heap.size [n64 fl, n64 z1, n64 z2, n64 z3, n64 0, n64 0, n64 0, n64 0, n64 0, n64 0, .slice none 0 0, .slice none 0 0] zeros12.toList := hm.set 3 (n64 z3) (by simp)
  obtain ⟨wb3, hw⟩ : ∃ W, wa3.setCell ⟨X, 3, none⟩ (n64 z3) = W := ⟨_, rfl⟩
  rw [hw] at hm2
  have HS3 := Lib.hid hw
  have HM3 := Lib.hid hm2
  have hn4 := rnum48_c hm2.rd hm2.le
  rw [HE4.out.1] at hn4
  dsimp only at hn4
  clear hR3 ka3 hm hm2 hw
  go_wp2_with (first
    | ((with_reducible show wpList _ _ _ _ _ (World.setCell wa3 _ _)); rw [HS3.out])
    | fail)
  (try rw [HS3.out])
  rw [rounds_succ]
  go_wp2_with (first
    | ((with_reducible show wpList _ _ _ _ _ (World.setCell wa3 _ _)); rw [HS3.out])
    | fail)
  clear s0 sf
  refine hn4.mono ?_
  rintro e wa4 ⟨rfl, hR4, ka4⟩
  clear hn4
  have hm := HM3.out.call hR4 HE4.out.2 ka4
  have s0 := hm.x.at_ 4 rfl
  have sf := hm.x.2 4
  have hm2 : RQ w1 (wa4.setCell ⟨X, 4, none⟩ (n64 z4)) F g xs a4 f4 X w.heap.size [n64 fl, n64 z1, n64 z2, n64 z3, n64 z4, n64 0, n64 0, n64 0, n64 0, n64 0, .slice none 0 0, .slice none 0 0] zeros12.toList := hm.set 4 (n64 z4) (by simp)
  obtain ⟨wb4, hw⟩ : ∃ W, wa4.setCell ⟨X, 4, none⟩ (n64 z4) = W := ⟨_, rfl⟩
  rw [hw] at hm2
  have HS4 := Lib.hid hw
  have HM4 := Lib.hid hm2
  have hn5 := rnum48_c hm2.rd hm2.le
  rw [HE5.out.1] at hn5
  dsimp only at hn5
  clear hR4 ka4 hm hm2 hw
  go_wp2_with (first
    | ((with_reducible show wpList _ _ _ _ _ (World.setCell wa4 _ _)); rw [HS4.out])
    | fail)
  (try rw [HS4.out])
  rw [rounds_succ]
  go_wp2_with (first
    | ((with_reducible show wpList _ _ _ _ _ (World.setCell wa4 _ _)); rw [HS4.out])
    | fail)
  clear s0 sf
  refine hn5.mono ?_
  rintro e wa5 ⟨rfl, hR5, ka5⟩
  clear hn5
  have hm := HM4.out.call hR5 HE5.out.2 ka5
  have s0 := hm.x.at_ 5 rfl
  have sf := hm.x.2 5
  have hm2 : RQ w1 (wa5.setCell ⟨X, 5, none⟩ (n64 z5)) F g xs a5 f5 X w.heap.size [n64 fl, n64 z1, n64 z2, n64 z3, n64 z4, n64 z5, n64 0, n64 0, n64 0, n64 0, .slice none 0 0, .slice none 0 0] zeros12.toList := hm.set 5 (n64 z5) (by simp)
  obtain ⟨wb5, hw⟩ : ∃ W, wa5.setCell ⟨X, 5, none⟩ (n64 z5) = W := ⟨_, rfl⟩
  rw [hw] at hm2
  have HS5 := Lib.hid hw
  have HM5 := Lib.hid hm2
  have hn6 := rnum48_c hm2.rd hm2.le
  rw [HE6.out.1] at hn6
  dsimp only at hn6
  clear hR5 ka5 hm hm2 hw
  go_wp2_with (first
    | ((with_reducible show wpList _ _ _ _ _ (World.setCell wa5 _ _)); rw [HS5.out])
    | fail)
  (try rw [HS5.out])
  rw [rounds_succ]
  go_wp2_with (first
    | ((with_reducible show wpList _ _ _ _ _ (World.setCell wa5 _ _)); rw [HS5.out])
    | fail)
  clear s0 sf
  refine hn6.mono ?_
  rintro e wa6 ⟨rfl, hR6, ka6⟩
  clear hn6
  have hm := HM5.out.call hR6 HE6.out.2 ka6
  have s0 := hm.x.at_ 6 rfl
  have sf := hm.x.2 6
  have hm2 : RQ w1 (wa6.setCell ⟨X, 6, none⟩ (n64 z6)) F g xs a6 f6 X w.heap.size [n64 fl, n64 z1, n64 z2, n64 z3, n64 z4, n64 z5, n64 z6, n64 0, n64 0, n64 0, .slice none 0 0, .slice none 0 0] zeros12.toList := hm.set 6 (n64 z6) (by simp)
  obtain ⟨wb6, hw⟩ : ∃ W, wa6.setCell ⟨X, 6, none⟩ (n64 z6) = W := ⟨_, rfl⟩
  rw [hw] at hm2
  have HS6 := Lib.hid hw
  have HM6 := Lib.hid hm2
  have hn7 := rnum48_c hm2.rd hm2.le
  rw [HE7.out.1] at hn7
  dsimp only at hn7
  clear hR6 ka6 hm hm2 hw
  go_wp2_with (first
    | ((with_reducible show wpList _ _ _ _ _ (World.setCell wa6 _ _)); rw [HS6.out])
    | fail)
  (try rw [HS6.out])
  rw [rounds_succ]
  go_wp2_with (first
    | ((with_reducible show wpList _ _ _ _ _ (World.setCell wa6 _ _)); rw [HS6.out])
    | fail)
  clear s0 sf
  refine hn7.mono ?_
  rintro e wa7 ⟨rfl, hR7, ka7⟩
  clear hn7
  have hm := HM6.out.call hR7 HE7.out.2 ka7
  have s0 := hm.x.at_ 7 rfl
  have sf := hm.x.2 7
  have hm2 : RQ w1 (wa7.setCell ⟨X, 7, none⟩ (n64 z7)) F g xs a7 f7 X w.heap.size [n64 fl, n64 z1, n64 z2, n64 z3, n64 z4, n64 z5, n64 z6, n64 z7, n64 0, n64 0, .slice none 0 0, .slice none 0 0] zeros12.toList := hm.set 7 (n64 z7) (by simp)
  obtain ⟨wb7, hw⟩ : ∃ W, wa7.setCell ⟨X, 7, none⟩ (n64 z7) = W := ⟨_, rfl⟩
  rw [hw] at hm2
  have HS7 := Lib.hid hw
  have HM7 := Lib.hid hm2
  have hn8 := rnum48_c hm2.rd hm2.le
  rw [HE8.out.1] at hn8
  dsimp only at hn8
  clear hR7 ka7 hm hm2 hw
  go_wp2_with (first
    | ((with_reducible show wpList _ _ _ _ _ (World.setCell wa7 _ _)); rw [HS7.out])
    | fail)
  clear s0 sf
  refine hn8.mono ?_
  rintro e wa8 ⟨rfl, hR8, ka8⟩
  clear hn8
  have hm := HM7.out.call hR8 HE8.out.2 ka8
  have s0 := hm.x.at_ 8 rfl
  have sf := hm.x.2 8
  have hm2 : RQ w1 (wa8.setCell ⟨X, 8, none⟩ (n64 z8)) F g xs a8 f8 X w.heap.size [n64 fl, n64 z1, n64 z2, n64 z3, n64 z4, n64 z5, n64 z6, n64 z7, n64 z8, n64 0, .slice none 0 0, .slice none 0 0] zeros12.toList := hm.set 8 (n64 z8) (by simp)
  obtain ⟨wb8, hw⟩ : ∃ W, wa8.setCell ⟨X, 8, none⟩ (n64 z8) = W := ⟨_, rfl⟩
  rw [hw] at hm2
  have HS8 := Lib.hid hw
  have HM8 := Lib.hid hm2
  have hn9 := rnum48_c hm2.rd hm2.le
  rw [HE9.out.1] at hn9
  dsimp only at hn9
  clear hR8 ka8 hm hm2 hw
  go_wp2_with (first
    | ((with_reducible show wpList _ _ _ _ _ (World.setCell wa8 _ _)); rw [HS8.out])
    | fail)
  clear s0 sf
  refine hn9.mono ?_
  rintro e wa9 ⟨rfl, hR9, ka9⟩
  clear hn9
  have hm := HM8.out.call hR9 HE9.out.2 ka9
  have s0 := hm.x.at_ 9 rfl
  have sf := hm.x.2 9
  have hm2 : RQ w1 (wa9.setCell ⟨X, 9, none⟩ (n64 z9)) F g xs a9 f9 X w.heap.size [n64 fl, n64 z1, n64 z2, n64 z3, n64 z4, n64 z5, n64 z6, n64 z7, n64 z8, n64 z9, .slice none 0 0, .slice none 0 0] zeros12.toList := hm.set 9 (n64 z9) (by simp)
  obtain ⟨wb9, hw⟩ : ∃ W, wa9.setCell ⟨X, 9, none⟩ (n64 z9) = W := ⟨_, rfl⟩
  rw [hw] at hm2
  have HS9 := Lib.hid hw
  have HM9 := Lib.hid hm2
  have hn10 := rnum48_c hm2.rd hm2.le
  rw [HEQ.out.2.1] at hn10
  dsimp only at hn10
  clear hR9 ka9 hm hm2 hw
  go_wp2_with (first
    | ((with_reducible show wpList _ _ _ _ _ (World.setCell wa9 _ _)); rw [HS9.out])
    | fail)
  clear s0 sf
  refine hn10.mono ?_
  rintro e wn0 ⟨rfl, hRn0, kn0⟩
  clear hn10
  have hmn0 := HM9.out.call hRn0 HLF.out.2.2 kn0
  have hwt := rwant_c hmn0.rd (decide ((n : Int) ≤ 8))
  rw [show rAsk (!decide ((n : Int) ≤ 8)) fm = fn by rw [← HEF.out.2]; congr 1; rw [← decide_not]; exact decide_eq_decide.2 (by omega)] at hwt
  have HMn0 := Lib.hid hmn0
  clear hRn0 kn0 hmn0
  go_wp2_with fail
  refine hwt.mono ?_
  rintro e wn ⟨⟨un, rfl⟩, hRn, kn⟩
  clear hwt
  have HMn := Lib.hid (HMn0.out.call hRn HMn0.out.le kn)
  clear hRn kn
  go_wp2_with fail
  go_loopw [9] (fun i wr => ∃ (q : Nat) (bv : Value) (ls : List (Value × Blk)) (a : Nat) (f : Int), i = n64 q ∧ q = ls.length ∧ (f = 0 → n ≤ 8) ∧ q ≤ n ∧ OwBl wr 40 (fun i => w1.heap.size ≤ i ∧ i ≠ X) bv ls ∧ RQ w1 wr F g xs a f X w.heap.size [n64 fl, n64 z1, n64 z2, n64 z3, n64 z4, n64 z5, n64 z6, n64 z7, n64 z8, n64 z9, bv, .slice none 0 0] zeros12.toList ∧ decBlks xs (n - q) (ls.map Prod.snd) a f = (Bl, ab, fb)) (fun i _ => n - (intOf i).toNat)
  case atStart => exact ⟨0, .slice none 0 0, [], an, fn, rfl, rfl, HHB.out, Nat.zero_le _, OwBl.nil _ _ _, HMn.out, HEB.out⟩
  case round =>
    obtain ⟨q, bv, ls, a, f, rfl, hql, hf8, hqn, ho, hm, hd⟩ := hrel
    by_cases hlt : q < n
    · by_cases hf0 : f = 0
      · subst hf0
        have hn8 := hf8 rfl
        rw [show n - q = (n - (q + 1)) + 1 by omega, decBlks_next] at hd
        obtain ⟨x, a2, f2, ed⟩ : ∃ x y z, decBlk xs (ls.map Prod.snd) a 0 = (x, y, z) := ⟨_, _, _, rfl⟩
        rw [ed] at hd
        dsimp only at hd
        have c1 := hm.rd.c1
        obtain ⟨bA, bc, rfl, hbc⟩ := ho.shape
        have HO := Lib.hid (And.intro ho (And.intro hm (And.intro hd (And.intro ed hql))))
        have hlt' : (q : Int) < (n : Int) := by omega
        clear ho hm hd ed hf8
        generalize hll : ls.length = ll at *
        have HLL := Lib.hid hll
        clear hll
        go_wp2_with fail
        clear c1
        refine rg_begin 9 (fun i => F i ∨ (w1.heap.size ≤ i ∧ i ≠ X)) (by kernel_rfl) (fun w5 d5 => ?_)
        have hm5 := HO.out.2.1.quiet d5
        have ho5 := HO.out.1.keepN d5
        have hX5 := hm5.lt
        have hz15 := hm5.kp.size
        have hcX : ∀ W, Kp (fun i => F i ∨ (w1.heap.size ≤ i ∧ i ≠ X)) w5 W → W.cell? ⟨X, 10, none⟩ = some (.slice bA ll bc) := fun W hW => (hm5.x.keep hX5.1 hW (fun hh => by
          rcases hh with hh | hh
          · have := hm5.fl _ hh; omega
          · exact hh.2 rfl)).at_ 10 rfl
        have hrb := rblock_c (l := ls.map Prod.snd) (bv := .slice bA ll bc) hm5.rd hm5.le (fun i hi => by have := hm5.fl i hi; omega) (fun W kW => by
          have := (ho5.keep kW (fun i hi hf => by have := hm5.fl i hf; have := hi.1; omega)).sl
          exact this) (by rw [List.length_map, HLL.out]; have := HO.out.2.2.2.2; omega) (by have := HX.out.2; omega)
        unfold RRdBlkP at hrb
        rw [HO.out.2.2.2.1] at hrb
        dsimp only at hrb
        refine rg_take 0 (d := (some 75)) (v := .pointer (some ⟨X, 10, none⟩)) (by decide) rfl rfl (by kernel_rfl) (by kernel_rfl) (by kernel_rfl) (fun _ _ _ h => h) rfl (fun W => by go_simp) ?_
        conv => arg 8; simp only [Act.put, List.setIfInBounds_toArray, List.set_cons_zero, List.set_cons_succ]
        refine rg_read 1 (d := (some 76)) (v := .slice bA ll bc) (by decide) (by kernel_rfl) (by kernel_rfl) rfl rfl (by kernel_rfl) (by kernel_rfl) (by kernel_rfl) (fun _ _ _ h => h) rfl (fun W hW => by have hc := (fun W hW => hcX W hW) W hW; go_simp) ?_
        conv => arg 8; simp only [Act.put, List.setIfInBounds_toArray, List.set_cons_zero, List.set_cons_succ]
        refine rg_take 2 (d := (some 77)) (v := .pointer (some ⟨g, 0, none⟩)) (by decide) rfl rfl (by kernel_rfl) (by kernel_rfl) (by kernel_rfl) (fun _ _ _ h => h) rfl (fun W => rfl) ?_
        conv => arg 8; simp only [Act.put, List.setIfInBounds_toArray, List.set_cons_zero, List.set_cons_succ]
        refine rg_take 3 (d := (some 78)) (v := .pointer (some ⟨X, 10, none⟩)) (by decide) rfl rfl (by kernel_rfl) (by kernel_rfl) (by kernel_rfl) (fun _ _ _ h => h) rfl (fun W => by go_simp) ?_
        conv => arg 8; simp only [Act.put, List.setIfInBounds_toArray, List.set_cons_zero, List.set_cons_succ]
        refine rg_read 4 (d := (some 79)) (v := .slice bA ll bc) (by decide) (by kernel_rfl) (by kernel_rfl) rfl rfl (by kernel_rfl) (by kernel_rfl) (by kernel_rfl) (fun _ _ _ h => h) rfl (fun W hW => by have hc := (fun W hW => hcX W hW) W hW; go_simp) ?_
        conv => arg 8; simp only [Act.put, List.setIfInBounds_toArray, List.set_cons_zero, List.set_cons_succ]
        refine rg_call 5 (d := (some 80)) (by kernel_rfl) (hrb) rfl rfl (by kernel_rfl) rfl rfl ?_
        rintro e w7 ⟨u, rfl, ou, hR7, le7, k7⟩
        refine ⟨_, rfl, k7.mono (fun _ _ h => .inl h), ?_⟩
        conv => arg 8; simp only [Act.put, List.setIfInBounds_toArray, List.set_cons_zero, List.set_cons_succ]
        obtain ⟨uA, uc, rfl, -⟩ := ou.readsB.form
        have hz7 := k7.size
        have hm7 := hm5.call hR7 le7 k7
        have ho7 := ho5.keep k7 (fun i hi hf => by have := hm5.fl i hf; have := hi.1; omega)
        have kl := (Kp.refl (fun _ => False) w7).alloc (.cells #[n64 x.ty, n64 x.nu, n64 x.fl, .slice uA x.da.length uc] 40)
        have hzl : (w7.alloc (.cells #[n64 x.ty, n64 x.nu, n64 x.fl, .slice uA x.da.length uc] 40)).heap.size = w7.heap.size + 1 := by simp
        have hlit := (OwC.lit w7 40 4 1 #[n64 x.ty, n64 x.nu, n64 x.fl, .slice uA x.da.length uc] (by simp [maxLen]) rfl).reads
        have hux := decBlk_u64 HO.out.2.2.2.1
        obtain ⟨v9, w9, r9, o9, k9⟩ := OwBl.push (t := 26) (xv := .slice (some ⟨w7.heap.size, 0, none⟩) 1 1) ((ho5.wide (G := fun i => w1.heap.size ≤ i ∧ i < w5.heap.size ∧ i ≠ X) (fun i hi hh => ⟨hh.1, hi, hh.2⟩)).keep (k7.thenN kl) (fun i hi hf => by have := hm5.fl i hf; have := hi.1; omega)) (ou.keepN kl) (fun i hi hh => by have := hi.2.1; have := hh.1; omega) hlit hux (by rw [HLL.out]; have := HO.out.2.2.2.2; omega) Try.underlying26 rblkInfo (by decide)
        have hz9 := k9.size
        have hm9 := (hm7.quiet kl).own k9 (fun i hi => ⟨hi.1, hi.2.2, by have := hi.1; have := HWR.out.2.2.2; omega⟩)
        have hm10 := hm9.set 10 v9 (by simp)
        have s10 := hm9.x.at_ 10 rfl
        have sf10 := hm9.x.2 10
        have ks10 : Kp (fun i => i = X) w9 (w9.setCell ⟨X, 10, none⟩ v9) := kp1_set3 _ _ _
        have o10 := (o9.wide (G := fun i => w1.heap.size ≤ i ∧ i ≠ X) (fun i hi hh => by
          rcases hh with hh | hh | hh
          · exact ⟨hh.1, hh.2.2⟩
          · exact ⟨by have := hh.1; omega, by have := hh.1; omega⟩
          · exact ⟨by have := hh.1; omega, by have := hh.1; omega⟩)).keep ks10 (fun i hi e => hi.2 e)
        refine rg_onlyW 6 (w' := w7.alloc (.cells #[n64 x.ty, n64 x.nu, n64 x.fl, .slice uA x.da.length uc] 40)) (d := (some 81)) (v := .slice (some ⟨w7.heap.size, 0, none⟩) 1 1) rfl rfl (by kernel_rfl) rfl (run_oneRBlk rfl) (kl.mono (fun _ _ x => x.elim)) ?_
        conv => arg 8; simp only [Act.put, List.setIfInBounds_toArray, List.set_cons_zero, List.set_cons_succ]
        refine rg_onlyW 7 (w' := w9) (d := (some 82)) (v := v9) rfl rfl (by kernel_rfl) rfl (run_append_op r9 rfl rfl) (k9.mono (fun i _ hi => .inr ⟨hi.1, hi.2.2⟩)) ?_
        conv => arg 8; simp only [Act.put, List.setIfInBounds_toArray, List.set_cons_zero, List.set_cons_succ]
        refine rg_take 8 (d := (some 83)) (v := .pointer (some ⟨X, 10, none⟩)) (by decide) rfl rfl (by kernel_rfl) (by kernel_rfl) (by kernel_rfl) (fun _ _ _ h => h) rfl (fun W => by go_simp) ?_
        conv => arg 8; simp only [Act.put, List.setIfInBounds_toArray, List.set_cons_zero, List.set_cons_succ]
        refine rg_lastS (G := fun _ => True) (w9.setCell ⟨X, 10, none⟩ v9) (d := none) rfl rfl (by kernel_rfl) rfl (run_store_op (run_storeAt_one w9 X 10 26 v9 (by rw [s10]; rfl) sf10 (by kernel_rfl) (own_cells o9.row) (own_one o9.row)) rfl rfl) (by kernel_rfl) ?_
        conv => arg 8; simp only [Act.put, List.setIfInBounds_toArray, List.set_cons_zero, List.set_cons_succ]
        refine rg_done (by kernel_rfl) ?_
        have hlq : (ls ++ [(Value.slice uA x.da.length uc, x)]).length = q + 1 := by rw [List.length_append, HLL.out]; have := HO.out.2.2.2.2; simp; omega
        have HF := Lib.hid (And.intro o10 (And.intro hm10 (And.intro hlq (show decBlks xs (n - (q + 1)) ((ls ++ [(Value.slice uA x.da.length uc, x)]).map Prod.snd) a2 f2 = (Bl, ab, fb) by rw [List.map_append]; exact HO.out.2.2.1))))
        clear hm5 ho5 hX5 hz15 hcX hrb ou hR7 k7 hz7 hm7 ho7 kl hzl hlit o9 k9 r9 hz9 hm9 hm10 s10 sf10 ks10 o10 hlq d5 le7
        go_wp2_with fail
        go_roundw
        case rel => exact ⟨q + 1, v9, _, a2, f2, by go_num, HF.out.2.2.1.symm, fun _ => hn8, by omega, HF.out.1, HF.out.2.1, HF.out.2.2.2⟩
        case measure =>
          simp [intOf]
          omega
      · rw [decBlks_stop _ _ _ _ _ hf0] at hd
        have hf0' : (f == 0) = false := by simp [hf0]
        have hlt' : (q : Int) < (n : Int) := by omega
        injection hd with hd1 hd2
        injection hd2 with hd2 hd3
        subst hd2 hd3
        obtain ⟨bA, bc, rfl, hbc⟩ := ho.shape
        have c1 := hm.rd.c1
        have HM := Lib.hid (And.intro hm (And.intro ho hd1))
        clear ho hm hd1 hf8 hql
        have hby := rfBytes_c (most := 512) HM.out.1.rd (by omega)
        rw [HEQ.out.2.2.1] at hby
        (try dsimp only at hby)
        go_wp2_with fail
        (try clear c1)
        refine hby.mono ?_
        rintro e wp ⟨u, rfl, ou, hRp, kp⟩
        clear hby
        obtain ⟨uA, uc, rfl, -⟩ := ou.readsB.form
        have lp : ap ≤ xs.length := by have := rBytes_le xs a f 512 HM.out.1.le; rw [HEQ.out.2.2.1] at this; exact this
        have hmp := HM.out.1.call hRp lp kp
        have s11 := hmp.x.at_ 11 rfl
        have sf11 := hmp.x.2 11
        have hm12 := hmp.set 11 (.slice uA pl.length uc) (by simp)
        have hXw := HM.out.1.lt
        have hzw := HM.out.1.kp.size
        have hzp := kp.size
        have ho12 := (HM.out.2.1.keep kp (fun i hi hf => by have := HM.out.1.fl i hf; have := hi.1; omega))
        have kX : Kp (fun i => i = X) wp (wp.setCell ⟨X, 11, none⟩ (.slice uA pl.length uc)) := kp1_set3 _ _ _
        have ho13 := ho12.keep kX (fun i hi e => hi.2 e)
        have ou13 := ou.keep kX (fun i hi e => by have := hi.1; omega)
        obtain ⟨wz, hwz⟩ : ∃ W, wp.setCell ⟨X, 11, none⟩ (.slice uA pl.length uc) = W := ⟨_, rfl⟩
        rw [hwz] at hm12 ho13 ou13
        have c1 := hm12.rd.c1
        obtain ⟨rv, c0, hrv, -⟩ := hm12.rd.c0
        obtain ⟨rA, rc, rfl, -⟩ := hrv.form
        obtain ⟨rl, hrl⟩ : ∃ z, (xs.drop ap).length = z := ⟨_, rfl⟩
        rw [hrl] at c0
        have hdl : (xs.drop ap).length = xs.length - ap := List.length_drop
        have hEe := HEQ.out.2.2.2
        unfold rEnd at hEe
        have hFl := rfFail_c (e := 11) hm12.rd
        have HPB := Lib.hid (show ∀ i, (Value.slice uA pl.length uc).ownBlock = some i → w1.heap.size ≤ i from fun i hi => by have := (ou.fit i hi).1; omega)
        have HZ := Lib.hid (And.intro hwz (And.intro hm12 (And.intro ho13 (And.intro ou13.readsB (show w1.heap.size ≤ wr.heap.size ∧ X < wr.heap.size by omega)))))
        have kw0 : KpN w w1 := HWR.out.2.1.thenN HK1.out.1
        have HW0 := Lib.hid kw0
        have hle : w.heap.size < w1.heap.size := by have := HK1.out.1.size; have := HWR.out.2.2.2; omega
        have hE0 := HRES.out.1
        rw [HX.out.2, if_neg H1024.out] at hE0
        have hB0 := HRES.out.2.1
        have HBB := Lib.hid (And.intro hE0 hB0)
        have hapx : ap < xs.length ↔ 0 < rl := by omega
        clear hRp kp hmp hm12 hXw hzw hzp ho12 kX ho13 ou ou13 hwz hrv hrl hdl lp hE0 hB0 kw0
        by_cases hfp : fp = 0
        · subst hfp
          by_cases hrl0 : rl = 0
          · rw [if_neg (by rw [hapx]; omega)] at hEe
            have hB0 := HBB.out.2
            rw [if_pos (by rw [HBB.out.1]; exact hEe.symm)] at hB0
            obtain ⟨wf, hst, hXf, kf, hzf⟩ := box_store HZ.out.2.1.r 29 #[n64 fl, n64 z1, n64 z2, n64 z3, n64 z4, n64 z5, n64 z6, n64 z7, n64 z8, n64 z9, .slice bA ls.length bc, .slice uA pl.length uc] rfl (by kernel_rfl) (by kernel_rfl)
            have hld := run_loadAt_rowat (P := Try.prog) HZ.out.2.1.x.1 Try.underlying29 rfl (by kernel_rfl)
            have hof := HZ.out.2.2.1.keep kf (fun i hi e => by have := hi.1; omega)
            have kfin : KpN w wf := (HW0.out.fresh HZ.out.2.1.kp (fun i hi => by have := HK1.out.2.2 i hi; have := HWR.out.2.2.2; omega)).fresh kf (fun i e => by omega)
            have ouf : RdB wf (.slice uA pl.length uc) pl := HZ.out.2.2.2.1.keep kf (fun i hi e => by
              have h9 := HPB.out i hi
              omega)
            have hokD := HRES.out.2.2
            rw [hB0] at hokD
            have hbd : RdBd wf (.slice bA ls.length bc) (.slice uA pl.length uc) ⟨fl, z1, z2, z3, z4, z5, z6, z7, z8, z9, Bl, pl⟩ := ⟨hokD, by rw [← HM.out.2.2]; exact hof.sl, ouf⟩
            have HF := Lib.hid (And.intro (HBB.out.1.trans hEe.symm) (And.intro hB0 (And.intro hst (And.intro hld (And.intro hXf (And.intro hbd kfin))))))
            subst hrl0
            clear hst hXf kf hzf hld hof kfin ouf hokD hbd hB0 hEe hapx hFl
            go_wp2_with (first
              | ((with_reducible show wpList _ _ _ _ _ (World.setCell wp _ _)); rw [HZ.out.1])
              | ((with_reducible show wpList _ _ _ (Oper.mk _ (Op.load 29 _) _ _ _ _ :: _) _ _); refine wpl_val rfl (run_load_opv HF.out.2.2.2.1 rfl) ?_)
              | ((with_reducible show wpList _ _ _ (Oper.mk _ (Op.store 29 _ _) _ _ _ _ :: _) _ _); refine wpl_skip rfl (run_store_op HF.out.2.2.1 rfl rfl) ?_)
              | fail)
            (try simp only [Exit.inBlock, Exit.then])
            refine bodyPost_ret (results_cell_tmp_at rfl _ _ rfl HF.out.2.2.2.2.1.1 Try.underlying29 rfl (by kernel_rfl)) rfl ?_
            unfold RDecQ
            exact ⟨_, _, by rw [HF.out.1, HF.out.2.1]; rfl, by rw [HF.out.2.1]; exact HF.out.2.2.2.2.2.1, HF.out.2.2.2.2.2.2⟩
          · rw [if_pos ⟨rfl, by rw [hapx]; omega⟩] at hEe
            rw [if_pos rfl] at hFl
            have hrl1 : (0 : Int) < (rl : Int) := by omega
            have HEE := Lib.hid hEe
            clear hrl0 hapx hEe
            go_wp2_with (first
              | ((with_reducible show wpList _ _ _ _ _ (World.setCell wp _ _)); rw [HZ.out.1])
              | fail)
            refine hFl.mono ?_
            rintro e we ⟨⟨ue, rfl⟩, hRe, ke⟩
            clear hFl c1 c0
            have hme := HZ.out.2.1.call hRe HZ.out.2.1.le ke
            have hEe := HEE.out
            have hEv : (11 : Int) = E := hEe
            have hEn : E ≠ 0 := by rw [← hEv]; first | exact hfp | simp
            have hB0 := HBB.out.2
            rw [if_neg (by rw [HBB.out.1]; exact hEn)] at hB0
            have c1 := hme.rd.c1
            have HME := Lib.hid (And.intro hme (And.intro hEv hB0))
            clear hme hEn hB0 hEe hEv
            go_wp2_with (first
              | ((with_reducible show wpList _ _ _ _ _ (World.setCell wp _ _)); rw [HZ.out.1])
              | fail)
            refine rg_begin 7 (fun k => k = w.heap.size) (by kernel_rfl) (fun w20 d20 => ?_)
            have hm20 := HME.out.1.quiet d20
            obtain ⟨wf, hst, hXf, kf, hzf⟩ := box_store hm20.r 29 zeros12 rfl (by kernel_rfl) (by kernel_rfl)
            refine rg_take 0 (d := (some 107)) (v := .agg zeros12) (by decide) rfl rfl (by kernel_rfl) (by kernel_rfl) (by kernel_rfl) (fun _ _ _ h => h) rfl (fun W => run_build0 _) ?_
            conv => arg 8; simp only [Act.put, List.setIfInBounds_toArray, List.set_cons_zero, List.set_cons_succ]
            refine rg_take 1 (d := (some 108)) (v := .pointer (some ⟨g, 0, none⟩)) (by decide) rfl rfl (by kernel_rfl) (by kernel_rfl) (by kernel_rfl) (fun _ _ _ h => h) rfl (fun W => rfl) ?_
            conv => arg 8; simp only [Act.put, List.setIfInBounds_toArray, List.set_cons_zero, List.set_cons_succ]
            refine rg_take 2 (d := (some 109)) (v := .pointer (some ⟨g, 0, none⟩)) (by decide) rfl rfl (by kernel_rfl) (by kernel_rfl) (by kernel_rfl) (fun _ _ _ h => h) rfl (fun W => by go_simp) ?_
            conv => arg 8; simp only [Act.put, List.setIfInBounds_toArray, List.set_cons_zero, List.set_cons_succ]
            refine rg_take 3 (d := (some 110)) (v := .pointer (some ⟨g, 1, none⟩)) (by decide) rfl rfl (by kernel_rfl) (by kernel_rfl) (by kernel_rfl) (fun _ _ _ h => h) rfl (fun W => by go_simp) ?_
            conv => arg 8; simp only [Act.put, List.setIfInBounds_toArray, List.set_cons_zero, List.set_cons_succ]
            refine rg_read 4 (d := (some 111)) (v := .int .i64 11) (by decide) (by kernel_rfl) (by kernel_rfl) rfl rfl (by kernel_rfl) (by kernel_rfl) (by kernel_rfl) (fun _ _ _ h => h) rfl (fun W hW => by have hc := (fun W hW => (hm20.rd.keep hW (fun i hi e => (HK1.out.2.1 i hi).2 e)).c1) W hW; go_simp) ?_
            conv => arg 8; simp only [Act.put, List.setIfInBounds_toArray, List.set_cons_zero, List.set_cons_succ]
            refine rg_onlyS 5 (w' := wf) (d := none) rfl rfl (by kernel_rfl) rfl (run_store_op hst rfl rfl) (kf) ?_
            conv => arg 8; simp only [Act.put, List.setIfInBounds_toArray, List.set_cons_zero, List.set_cons_succ]
            refine rg_take 6 (d := (some 3)) (v := .int .i64 11) (by decide) rfl rfl (by kernel_rfl) (by kernel_rfl) (by kernel_rfl) (fun _ _ _ h => h) rfl (fun W => rfl) ?_
            conv => arg 8; simp only [Act.put, List.setIfInBounds_toArray, List.set_cons_zero, List.set_cons_succ]
            refine rg_done (by kernel_rfl) ?_
            have kfin : KpN w wf := (HW0.out.fresh hm20.kp (fun i hi => by have := HK1.out.2.2 i hi; have := HWR.out.2.2.2; omega)).fresh kf (fun i e => by omega)
            have HF := Lib.hid (And.intro hXf kfin)
            clear hm20 hst hXf kf hzf kfin d20
            go_wp2_with fail
            (try simp only [Exit.inBlock, Exit.then])
            refine bodyPost_ret (results_cell_tmp_at rfl _ _ rfl HF.out.1.1 Try.underlying29 rfl (by kernel_rfl)) rfl ?_
            unfold RDecQ
            exact ⟨.slice none 0 0, .slice none 0 0, by rw [HBB.out.1, HME.out.2.2, ← HME.out.2.1]; rfl, by rw [HME.out.2.2]; exact RdBd.ofNone _, HF.out.2⟩
        · rw [if_neg (fun hh => hfp hh.1)] at hEe
          have hfp' : (fp == 0) = false := by simp [hfp]
          have hfp'' : (fp != 0) = true := by simp [hfp]
          have hme := HZ.out.2.1
          have hEv : fp = E := hEe
          clear hapx hFl
          have hEn : E ≠ 0 := by rw [← hEv]; first | exact hfp | simp
          have hB0 := HBB.out.2
          rw [if_neg (by rw [HBB.out.1]; exact hEn)] at hB0
          have c1 := hme.rd.c1
          have HME := Lib.hid (And.intro hme (And.intro hEv hB0))
          clear hme hEn hB0 hEe hEv
          go_wp2_with (first
            | ((with_reducible show wpList _ _ _ _ _ (World.setCell wp _ _)); rw [HZ.out.1])
            | fail)
          refine rg_begin 7 (fun k => k = w.heap.size) (by kernel_rfl) (fun w20 d20 => ?_)
          have hm20 := HME.out.1.quiet d20
          obtain ⟨wf, hst, hXf, kf, hzf⟩ := box_store hm20.r 29 zeros12 rfl (by kernel_rfl) (by kernel_rfl)
          refine rg_take 0 (d := (some 107)) (v := .agg zeros12) (by decide) rfl rfl (by kernel_rfl) (by kernel_rfl) (by kernel_rfl) (fun _ _ _ h => h) rfl (fun W => run_build0 _) ?_
          conv => arg 8; simp only [Act.put, List.setIfInBounds_toArray, List.set_cons_zero, List.set_cons_succ]
          refine rg_take 1 (d := (some 108)) (v := .pointer (some ⟨g, 0, none⟩)) (by decide) rfl rfl (by kernel_rfl) (by kernel_rfl) (by kernel_rfl) (fun _ _ _ h => h) rfl (fun W => rfl) ?_
          conv => arg 8; simp only [Act.put, List.setIfInBounds_toArray, List.set_cons_zero, List.set_cons_succ]
          refine rg_take 2 (d := (some 109)) (v := .pointer (some ⟨g, 0, none⟩)) (by decide) rfl rfl (by kernel_rfl) (by kernel_rfl) (by kernel_rfl) (fun _ _ _ h => h) rfl (fun W => by go_simp) ?_
          conv => arg 8; simp only [Act.put, List.setIfInBounds_toArray, List.set_cons_zero, List.set_cons_succ]
          refine rg_take 3 (d := (some 110)) (v := .pointer (some ⟨g, 1, none⟩)) (by decide) rfl rfl (by kernel_rfl) (by kernel_rfl) (by kernel_rfl) (fun _ _ _ h => h) rfl (fun W => by go_simp) ?_
          conv => arg 8; simp only [Act.put, List.setIfInBounds_toArray, List.set_cons_zero, List.set_cons_succ]
          refine rg_read 4 (d := (some 111)) (v := .int .i64 fp) (by decide) (by kernel_rfl) (by kernel_rfl) rfl rfl (by kernel_rfl) (by kernel_rfl) (by kernel_rfl) (fun _ _ _ h => h) rfl (fun W hW => by have hc := (fun W hW => (hm20.rd.keep hW (fun i hi e => (HK1.out.2.1 i hi).2 e)).c1) W hW; go_simp) ?_
          conv => arg 8; simp only [Act.put, List.setIfInBounds_toArray, List.set_cons_zero, List.set_cons_succ]
          refine rg_onlyS 5 (w' := wf) (d := none) rfl rfl (by kernel_rfl) rfl (run_store_op hst rfl rfl) (kf) ?_
          conv => arg 8; simp only [Act.put, List.setIfInBounds_toArray, List.set_cons_zero, List.set_cons_succ]
          refine rg_take 6 (d := (some 3)) (v := .int .i64 fp) (by decide) rfl rfl (by kernel_rfl) (by kernel_rfl) (by kernel_rfl) (fun _ _ _ h => h) rfl (fun W => rfl) ?_
          conv => arg 8; simp only [Act.put, List.setIfInBounds_toArray, List.set_cons_zero, List.set_cons_succ]
          refine rg_done (by kernel_rfl) ?_
          have kfin : KpN w wf := (HW0.out.fresh hm20.kp (fun i hi => by have := HK1.out.2.2 i hi; have := HWR.out.2.2.2; omega)).fresh kf (fun i e => by omega)
          have HF := Lib.hid (And.intro hXf kfin)
          clear hm20 hst hXf kf hzf kfin d20
          go_wp2_with fail
          (try simp only [Exit.inBlock, Exit.then])
          refine bodyPost_ret (results_cell_tmp_at rfl _ _ rfl HF.out.1.1 Try.underlying29 rfl (by kernel_rfl)) rfl ?_
          unfold RDecQ
          exact ⟨.slice none 0 0, .slice none 0 0, by rw [HBB.out.1, HME.out.2.2, ← HME.out.2.1]; rfl, by rw [HME.out.2.2]; exact RdBd.ofNone _, HF.out.2⟩
    · have hqn2 : q = n := by omega
      subst hqn2
      rw [Nat.sub_self] at hd
      have hd : (ls.map Prod.snd, a, f) = (Bl, ab, fb) := hd
      injection hd with hd1 hd2
      injection hd2 with hd2 hd3
      subst hd2 hd3
      obtain ⟨bA, bc, rfl, hbc⟩ := ho.shape
      have HM := Lib.hid (And.intro hm (And.intro ho hd1))
      clear ho hm hd1 hf8 hql
      have hby := rfBytes_c (most := 512) HM.out.1.rd (by omega)
      rw [HEQ.out.2.2.1] at hby
      (try dsimp only at hby)
      go_wp2_with fail
      (try clear c1)
      refine hby.mono ?_
      rintro e wp ⟨u, rfl, ou, hRp, kp⟩
      clear hby
      obtain ⟨uA, uc, rfl, -⟩ := ou.readsB.form
      have lp : ap ≤ xs.length := by have := rBytes_le xs a f 512 HM.out.1.le; rw [HEQ.out.2.2.1] at this; exact this
      have hmp := HM.out.1.call hRp lp kp
      have s11 := hmp.x.at_ 11 rfl
      have sf11 := hmp.x.2 11
      have hm12 := hmp.set 11 (.slice uA pl.length uc) (by simp)
      have hXw := HM.out.1.lt
      have hzw := HM.out.1.kp.size
      have hzp := kp.size
      have ho12 := (HM.out.2.1.keep kp (fun i hi hf => by have := HM.out.1.fl i hf; have := hi.1; omega))
      have kX : Kp (fun i => i = X) wp (wp.setCell ⟨X, 11, none⟩ (.slice uA pl.length uc)) := kp1_set3 _ _ _
      have ho13 := ho12.keep kX (fun i hi e => hi.2 e)
      have ou13 := ou.keep kX (fun i hi e => by have := hi.1; omega)
      obtain ⟨wz, hwz⟩ : ∃ W, wp.setCell ⟨X, 11, none⟩ (.slice uA pl.length uc) = W := ⟨_, rfl⟩
      rw [hwz] at hm12 ho13 ou13
      have c1 := hm12.rd.c1
      obtain ⟨rv, c0, hrv, -⟩ := hm12.rd.c0
      obtain ⟨rA, rc, rfl, -⟩ := hrv.form
      obtain ⟨rl, hrl⟩ : ∃ z, (xs.drop ap).length = z := ⟨_, rfl⟩
      rw [hrl] at c0
      have hdl : (xs.drop ap).length = xs.length - ap := List.length_drop
      have hEe := HEQ.out.2.2.2
      unfold rEnd at hEe
      have hFl := rfFail_c (e := 11) hm12.rd
      have HPB := Lib.hid (show ∀ i, (Value.slice uA pl.length uc).ownBlock = some i → w1.heap.size ≤ i from fun i hi => by have := (ou.fit i hi).1; omega)
      have HZ := Lib.hid (And.intro hwz (And.intro hm12 (And.intro ho13 (And.intro ou13.readsB (show w1.heap.size ≤ wr.heap.size ∧ X < wr.heap.size by omega)))))
      have kw0 : KpN w w1 := HWR.out.2.1.thenN HK1.out.1
      have HW0 := Lib.hid kw0
      have hle : w.heap.size < w1.heap.size := by have := HK1.out.1.size; have := HWR.out.2.2.2; omega
      have hE0 := HRES.out.1
      rw [HX.out.2, if_neg H1024.out] at hE0
      have hB0 := HRES.out.2.1
      have HBB := Lib.hid (And.intro hE0 hB0)
      have hapx : ap < xs.length ↔ 0 < rl := by omega
      clear hRp kp hmp hm12 hXw hzw hzp ho12 kX ho13 ou ou13 hwz hrv hrl hdl lp hE0 hB0 kw0
      by_cases hfp : fp = 0
      · subst hfp
        by_cases hrl0 : rl = 0
        · rw [if_neg (by rw [hapx]; omega)] at hEe
          have hB0 := HBB.out.2
          rw [if_pos (by rw [HBB.out.1]; exact hEe.symm)] at hB0
          obtain ⟨wf, hst, hXf, kf, hzf⟩ := box_store HZ.out.2.1.r 29 #[n64 fl, n64 z1, n64 z2, n64 z3, n64 z4, n64 z5, n64 z6, n64 z7, n64 z8, n64 z9, .slice bA ls.length bc, .slice uA pl.length uc] rfl (by kernel_rfl) (by kernel_rfl)
          have hld := run_loadAt_rowat (P := Try.prog) HZ.out.2.1.x.1 Try.underlying29 rfl (by kernel_rfl)
          have hof := HZ.out.2.2.1.keep kf (fun i hi e => by have := hi.1; omega)
          have kfin : KpN w wf := (HW0.out.fresh HZ.out.2.1.kp (fun i hi => by have := HK1.out.2.2 i hi; have := HWR.out.2.2.2; omega)).fresh kf (fun i e => by omega)
          have ouf : RdB wf (.slice uA pl.length uc) pl := HZ.out.2.2.2.1.keep kf (fun i hi e => by
            have h9 := HPB.out i hi
            omega)
          have hokD := HRES.out.2.2
          rw [hB0] at hokD
          have hbd : RdBd wf (.slice bA ls.length bc) (.slice uA pl.length uc) ⟨fl, z1, z2, z3, z4, z5, z6, z7, z8, z9, Bl, pl⟩ := ⟨hokD, by rw [← HM.out.2.2]; exact hof.sl, ouf⟩
          have HF := Lib.hid (And.intro (HBB.out.1.trans hEe.symm) (And.intro hB0 (And.intro hst (And.intro hld (And.intro hXf (And.intro hbd kfin))))))
          subst hrl0
          clear hst hXf kf hzf hld hof kfin ouf hokD hbd hB0 hEe hapx hFl
          go_wp2_with (first
            | ((with_reducible show wpList _ _ _ _ _ (World.setCell wp _ _)); rw [HZ.out.1])
            | ((with_reducible show wpList _ _ _ (Oper.mk _ (Op.load 29 _) _ _ _ _ :: _) _ _); refine wpl_val rfl (run_load_opv HF.out.2.2.2.1 rfl) ?_)
            | ((with_reducible show wpList _ _ _ (Oper.mk _ (Op.store 29 _ _) _ _ _ _ :: _) _ _); refine wpl_skip rfl (run_store_op HF.out.2.2.1 rfl rfl) ?_)
            | fail)
          (try simp only [Exit.inBlock, Exit.then])
          refine bodyPost_ret (results_cell_tmp_at rfl _ _ rfl HF.out.2.2.2.2.1.1 Try.underlying29 rfl (by kernel_rfl)) rfl ?_
          unfold RDecQ
          exact ⟨_, _, by rw [HF.out.1, HF.out.2.1]; rfl, by rw [HF.out.2.1]; exact HF.out.2.2.2.2.2.1, HF.out.2.2.2.2.2.2⟩
        · rw [if_pos ⟨rfl, by rw [hapx]; omega⟩] at hEe
          rw [if_pos rfl] at hFl
          have hrl1 : (0 : Int) < (rl : Int) := by omega
          have HEE := Lib.hid hEe
          clear hrl0 hapx hEe
          go_wp2_with (first
            | ((with_reducible show wpList _ _ _ _ _ (World.setCell wp _ _)); rw [HZ.out.1])
            | fail)
          refine hFl.mono ?_
          rintro e we ⟨⟨ue, rfl⟩, hRe, ke⟩
          clear hFl c1 c0
          have hme := HZ.out.2.1.call hRe HZ.out.2.1.le ke
          have hEe := HEE.out
          have hEv : (11 : Int) = E := hEe
          have hEn : E ≠ 0 := by rw [← hEv]; first | exact hfp | simp
          have hB0 := HBB.out.2
          rw [if_neg (by rw [HBB.out.1]; exact hEn)] at hB0
          have c1 := hme.rd.c1
          have HME := Lib.hid (And.intro hme (And.intro hEv hB0))
          clear hme hEn hB0 hEe hEv
          go_wp2_with (first
            | ((with_reducible show wpList _ _ _ _ _ (World.setCell wp _ _)); rw [HZ.out.1])
            | fail)
          refine rg_begin 7 (fun k => k = w.heap.size) (by kernel_rfl) (fun w20 d20 => ?_)
          have hm20 := HME.out.1.quiet d20
          obtain ⟨wf, hst, hXf, kf, hzf⟩ := box_store hm20.r 29 zeros12 rfl (by kernel_rfl) (by kernel_rfl)
          refine rg_take 0 (d := (some 107)) (v := .agg zeros12) (by decide) rfl rfl (by kernel_rfl) (by kernel_rfl) (by kernel_rfl) (fun _ _ _ h => h) rfl (fun W => run_build0 _) ?_
          conv => arg 8; simp only [Act.put, List.setIfInBounds_toArray, List.set_cons_zero, List.set_cons_succ]
          refine rg_take 1 (d := (some 108)) (v := .pointer (some ⟨g, 0, none⟩)) (by decide) rfl rfl (by kernel_rfl) (by kernel_rfl) (by kernel_rfl) (fun _ _ _ h => h) rfl (fun W => rfl) ?_
          conv => arg 8; simp only [Act.put, List.setIfInBounds_toArray, List.set_cons_zero, List.set_cons_succ]
          refine rg_take 2 (d := (some 109)) (v := .pointer (some ⟨g, 0, none⟩)) (by decide) rfl rfl (by kernel_rfl) (by kernel_rfl) (by kernel_rfl) (fun _ _ _ h => h) rfl (fun W => by go_simp) ?_
          conv => arg 8; simp only [Act.put, List.setIfInBounds_toArray, List.set_cons_zero, List.set_cons_succ]
          refine rg_take 3 (d := (some 110)) (v := .pointer (some ⟨g, 1, none⟩)) (by decide) rfl rfl (by kernel_rfl) (by kernel_rfl) (by kernel_rfl) (fun _ _ _ h => h) rfl (fun W => by go_simp) ?_
          conv => arg 8; simp only [Act.put, List.setIfInBounds_toArray, List.set_cons_zero, List.set_cons_succ]
          refine rg_read 4 (d := (some 111)) (v := .int .i64 11) (by decide) (by kernel_rfl) (by kernel_rfl) rfl rfl (by kernel_rfl) (by kernel_rfl) (by kernel_rfl) (fun _ _ _ h => h) rfl (fun W hW => by have hc := (fun W hW => (hm20.rd.keep hW (fun i hi e => (HK1.out.2.1 i hi).2 e)).c1) W hW; go_simp) ?_
          conv => arg 8; simp only [Act.put, List.setIfInBounds_toArray, List.set_cons_zero, List.set_cons_succ]
          refine rg_onlyS 5 (w' := wf) (d := none) rfl rfl (by kernel_rfl) rfl (run_store_op hst rfl rfl) (kf) ?_
          conv => arg 8; simp only [Act.put, List.setIfInBounds_toArray, List.set_cons_zero, List.set_cons_succ]
          refine rg_take 6 (d := (some 3)) (v := .int .i64 11) (by decide) rfl rfl (by kernel_rfl) (by kernel_rfl) (by kernel_rfl) (fun _ _ _ h => h) rfl (fun W => rfl) ?_
          conv => arg 8; simp only [Act.put, List.setIfInBounds_toArray, List.set_cons_zero, List.set_cons_succ]
          refine rg_done (by kernel_rfl) ?_
          have kfin : KpN w wf := (HW0.out.fresh hm20.kp (fun i hi => by have := HK1.out.2.2 i hi; have := HWR.out.2.2.2; omega)).fresh kf (fun i e => by omega)
          have HF := Lib.hid (And.intro hXf kfin)
          clear hm20 hst hXf kf hzf kfin d20
          go_wp2_with fail
          (try simp only [Exit.inBlock, Exit.then])
          refine bodyPost_ret (results_cell_tmp_at rfl _ _ rfl HF.out.1.1 Try.underlying29 rfl (by kernel_rfl)) rfl ?_
          unfold RDecQ
          exact ⟨.slice none 0 0, .slice none 0 0, by rw [HBB.out.1, HME.out.2.2, ← HME.out.2.1]; rfl, by rw [HME.out.2.2]; exact RdBd.ofNone _, HF.out.2⟩
      · rw [if_neg (fun hh => hfp hh.1)] at hEe
        have hfp' : (fp == 0) = false := by simp [hfp]
        have hfp'' : (fp != 0) = true := by simp [hfp]
        have hme := HZ.out.2.1
        have hEv : fp = E := hEe
        clear hapx hFl
        have hEn : E ≠ 0 := by rw [← hEv]; first | exact hfp | simp
        have hB0 := HBB.out.2
        rw [if_neg (by rw [HBB.out.1]; exact hEn)] at hB0
        have c1 := hme.rd.c1
        have HME := Lib.hid (And.intro hme (And.intro hEv hB0))
        clear hme hEn hB0 hEe hEv
        go_wp2_with (first
          | ((with_reducible show wpList _ _ _ _ _ (World.setCell wp _ _)); rw [HZ.out.1])
          | fail)
        refine rg_begin 7 (fun k => k = w.heap.size) (by kernel_rfl) (fun w20 d20 => ?_)
        have hm20 := HME.out.1.quiet d20
        obtain ⟨wf, hst, hXf, kf, hzf⟩ := box_store hm20.r 29 zeros12 rfl (by kernel_rfl) (by kernel_rfl)
        refine rg_take 0 (d := (some 107)) (v := .agg zeros12) (by decide) rfl rfl (by kernel_rfl) (by kernel_rfl) (by kernel_rfl) (fun _ _ _ h => h) rfl (fun W => run_build0 _) ?_
        conv => arg 8; simp only [Act.put, List.setIfInBounds_toArray, List.set_cons_zero, List.set_cons_succ]
        refine rg_take 1 (d := (some 108)) (v := .pointer (some ⟨g, 0, none⟩)) (by decide) rfl rfl (by kernel_rfl) (by kernel_rfl) (by kernel_rfl) (fun _ _ _ h => h) rfl (fun W => rfl) ?_
        conv => arg 8; simp only [Act.put, List.setIfInBounds_toArray, List.set_cons_zero, List.set_cons_succ]
        refine rg_take 2 (d := (some 109)) (v := .pointer (some ⟨g, 0, none⟩)) (by decide) rfl rfl (by kernel_rfl) (by kernel_rfl) (by kernel_rfl) (fun _ _ _ h => h) rfl (fun W => by go_simp) ?_
        conv => arg 8; simp only [Act.put, List.setIfInBounds_toArray, List.set_cons_zero, List.set_cons_succ]
        refine rg_take 3 (d := (some 110)) (v := .pointer (some ⟨g, 1, none⟩)) (by decide) rfl rfl (by kernel_rfl) (by kernel_rfl) (by kernel_rfl) (fun _ _ _ h => h) rfl (fun W => by go_simp) ?_
        conv => arg 8; simp only [Act.put, List.setIfInBounds_toArray, List.set_cons_zero, List.set_cons_succ]
        refine rg_read 4 (d := (some 111)) (v := .int .i64 fp) (by decide) (by kernel_rfl) (by kernel_rfl) rfl rfl (by kernel_rfl) (by kernel_rfl) (by kernel_rfl) (fun _ _ _ h => h) rfl (fun W hW => by have hc := (fun W hW => (hm20.rd.keep hW (fun i hi e => (HK1.out.2.1 i hi).2 e)).c1) W hW; go_simp) ?_
        conv => arg 8; simp only [Act.put, List.setIfInBounds_toArray, List.set_cons_zero, List.set_cons_succ]
        refine rg_onlyS 5 (w' := wf) (d := none) rfl rfl (by kernel_rfl) rfl (run_store_op hst rfl rfl) (kf) ?_
        conv => arg 8; simp only [Act.put, List.setIfInBounds_toArray, List.set_cons_zero, List.set_cons_succ]
        refine rg_take 6 (d := (some 3)) (v := .int .i64 fp) (by decide) rfl rfl (by kernel_rfl) (by kernel_rfl) (by kernel_rfl) (fun _ _ _ h => h) rfl (fun W => rfl) ?_
        conv => arg 8; simp only [Act.put, List.setIfInBounds_toArray, List.set_cons_zero, List.set_cons_succ]
        refine rg_done (by kernel_rfl) ?_
        have kfin : KpN w wf := (HW0.out.fresh hm20.kp (fun i hi => by have := HK1.out.2.2 i hi; have := HWR.out.2.2.2; omega)).fresh kf (fun i e => by omega)
        have HF := Lib.hid (And.intro hXf kfin)
        clear hm20 hst hXf kf hzf kfin d20
        go_wp2_with fail
        (try simp only [Exit.inBlock, Exit.then])
        refine bodyPost_ret (results_cell_tmp_at rfl _ _ rfl HF.out.1.1 Try.underlying29 rfl (by kernel_rfl)) rfl ?_
        unfold RDecQ
        exact ⟨.slice none 0 0, .slice none 0 0, by rw [HBB.out.1, HME.out.2.2, ← HME.out.2.1]; rfl, by rw [HME.out.2.2]; exact RdBd.ofNone _, HF.out.2⟩
end Go.Proofs.Yteokkpmndfekoaa
