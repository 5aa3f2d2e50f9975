/- bundle.readBlock. -/
import Derived.Test.YteokkpmndfekoaaGA
namespace Go.Proofs.Yteokkpmndfekoaa
open Go Go.RowKit Go.ChangeShapes Go.WideShapes Go.ChangeAt
set_option maxRecDepth 100000

/-- the Reader, the block that is read, the closure's variable, the result's place -/
structure RB (w W : World) (F : Nat → Prop) (g : Nat) (v : Value) (xs : List UInt8) (a : Nat) (f : Int) (B X R : Nat) (cs : List Value) : Prop where
  rd : RdrC W F g v xs a f
  x : CellsAt W X cs
  b : W.cell? ⟨B, 0, none⟩ = some (.pointer (some ⟨g, 0, none⟩))
  r : CellsAt W R zero4
  kp : Kp F w W
  lt : B < W.heap.size ∧ X < W.heap.size ∧ R < W.heap.size ∧ w.heap.size ≤ B ∧ w.heap.size ≤ X ∧ w.heap.size ≤ R ∧ R ≠ X ∧ B ≠ X
  fl : ∀ i, F i → i < w.heap.size
section
variable {w W W' : World} {F : Nat → Prop} {g a a' B X R : Nat} {f f' : Int} {v : Value} {xs : List UInt8} {cs : List Value}
theorem RB.call (h : RB w W F g v xs a f B X R cs) (hr : RdrC W' F g v xs a' f') (k : Kp F W W') : RB w W' F g v xs a' f' B X R cs := by
  obtain ⟨l1, l2, l3, l4, l5, l6, l7, l8⟩ := h.lt
  have hz := k.size
  have hn : ∀ i, w.heap.size ≤ i → ¬ F i := fun i hi hf => by have := h.fl i hf; omega
  exact ⟨hr, h.x.keep l2 k (hn _ l5), by rw [k.cell (p := ⟨B, 0, none⟩) l1 (hn _ l4)]; exact h.b, h.r.keep l3 k (hn _ l6), h.kp.trans k (fun _ _ x => x) (fun _ _ x => x), ⟨by omega, by omega, by omega, l4, l5, l6, l7, l8⟩, h.fl⟩
theorem RB.quiet (h : RB w W F g v xs a f B X R cs) (k : KpN W W') : RB w W' F g v xs a f B X R cs := h.call (h.rd.keepN k) (k.mono (fun _ _ x => x.elim))
theorem RB.set (h : RB w W F g v xs a f B X R cs) (i : Nat) (u : Value) (hi : i < cs.length) : RB w (W.setCell ⟨X, i, none⟩ u) F g v xs a f B X R (cs.set i u) := by
  obtain ⟨l1, l2, l3, l4, l5, l6, l7, l8⟩ := h.lt
  have ks : Kp (fun k => k = X) W (W.setCell ⟨X, i, none⟩ u) := kp1_set3 X i u
  have hf : ∀ j, F j → ¬ j = X := fun j hj e => by have := h.fl j hj; omega
  refine ⟨h.rd.keep ks hf, h.x.set i u hi, by rw [ks.cell (p := ⟨B, 0, none⟩) l1 l8]; exact h.b, h.r.keep l3 ks l7, ?_, ⟨by simpa using l1, by simpa using l2, by simpa using l3, l4, l5, l6, l7, l8⟩, h.fl⟩
  exact h.kp.setCell (p := ⟨X, i, none⟩) (.inr l5) u
end
theorem RB.start {w : World} {F : Nat → Prop} {g a : Nat} {f : Int} {v : Value} {xs : List UInt8} (h : RdrC w F g v xs a f) (hF : ∀ i, F i → i < w.heap.size) :
    ∃ W, ((w.alloc (.cells #[.pointer (some ⟨g, 0, none⟩)] 94)).alloc (.cells #[.int .u64 0, .int .u64 0, .int .u64 0, .slice none 0 0] 37)).alloc (.cells #[.int .u64 0, .int .u64 0, .int .u64 0, .slice none 0 0] 37) = W ∧
      RB w W F g v xs a f w.heap.size (w.heap.size + 2) (w.heap.size + 1) [n64 0, n64 0, n64 0, .slice none 0 0] := by
  obtain ⟨A, hA⟩ : ∃ A, w.alloc (.cells #[.pointer (some ⟨g, 0, none⟩)] 94) = A := ⟨_, rfl⟩
  have zA : A.heap.size = w.heap.size + 1 := by rw [← hA]; simp
  have kA : KpN w A := by rw [← hA]; exact (Kp.refl _ w).alloc _
  have cA : CellsAt A w.heap.size [.pointer (some ⟨g, 0, none⟩)] := by rw [← hA]; exact CellsAt.new w [.pointer (some ⟨g, 0, none⟩)] 94
  obtain ⟨C, hC⟩ : ∃ C, A.alloc (.cells #[.int .u64 0, .int .u64 0, .int .u64 0, .slice none 0 0] 37) = C := ⟨_, rfl⟩
  have zC : C.heap.size = w.heap.size + 2 := by rw [← hC]; simp [zA]
  have kC : KpN A C := by rw [← hC]; exact (Kp.refl _ A).alloc _
  have cC : CellsAt C (w.heap.size + 1) zero4 := by
    rw [← hC, ← zA]
    exact CellsAt.new A zero4 37
  obtain ⟨D, hD⟩ : ∃ D, C.alloc (.cells #[.int .u64 0, .int .u64 0, .int .u64 0, .slice none 0 0] 37) = D := ⟨_, rfl⟩
  have zD : D.heap.size = w.heap.size + 3 := by rw [← hD]; simp [zC]
  have kD : KpN C D := by rw [← hD]; exact (Kp.refl _ C).alloc _
  have cD : CellsAt D (w.heap.size + 2) zero4 := by
    rw [← hD, ← zC]
    exact CellsAt.new C zero4 37
  refine ⟨D, by rw [hA, hC, hD], h.keepN ((kA.thenN kC).thenN kD), cD, ?_, cC.keep (by omega) kD (fun x => x), ((kA.thenN kC).thenN kD).mono (fun _ _ x => x.elim), ⟨by omega, by omega, by omega, by omega, by omega, by omega, by omega, by omega⟩, hF⟩
  exact (cA.keep (by omega) (kC.thenN kD) (fun x => x)).at_ 0 rfl
def RdBlkP (xs : List UInt8) (F : Nat → Prop) (g : Nat) (v : Value) (l : List Blk) (a : Nat) (f : Int) (w : World) (e : Ending) (w' : World) : Prop :=
  ∃ u, e = .returned (blkV (decBlk xs l a f).1 u) ∧ OwB w' 5 (Iv w.heap.size w'.heap.size) u (decBlk xs l a f).1.da ∧ RdrC w' F g v xs (decBlk xs l a f).2.1 (decBlk xs l a f).2.2 ∧ Kp F w w'
theorem blkInfoS : (Try.prog.info? 37).map (·.size) = some 4 := by kernel_rfl
set_option maxHeartbeats 12800000 in
theorem readBlock_c {w : World} {F : Nat → Prop} {g a : Nat} {f : Int} {v bv : Value} {xs : List UInt8} {l : List Blk} (h : RdrC w F g v xs a f) (hF : ∀ i, F i → i < w.heap.size) (hb : ∀ W, Kp F w W → SlAt W 4 BlkAt bv l) (hl : l.length ≤ 10000000) (_hxl : xs.length ≤ 100000000000) :
    Calls Try.prog 49 #[.pointer (some ⟨g, 0, none⟩), bv] w (RdBlkP xs F g v l a f w) := by
  obtain ⟨W0, hW0, hm0⟩ := RB.start h hF
  obtain ⟨bA, bc, rfl, hbc⟩ := (hb w (Kp.refl _ _)).form
  obtain ⟨N, hN⟩ : ∃ N, l.length = N := ⟨_, rfl⟩
  -- what is read
  obtain ⟨t, aT, fT, eT⟩ : ∃ t a' f', rNum xs a f 281474976710655 = (t, a', f') := ⟨_, _, _, rfl⟩
  obtain ⟨n, aN, fN, eN⟩ : ∃ z a' f', rNum xs aT (rAsk (tyBad t l) fT) 281474976710655 = (z, a', f') := ⟨_, _, _, rfl⟩
  obtain ⟨fl, aG, fG, eG⟩ : ∃ z a' f', rWant xs aN (rAsk (nuBad n l) fN) 255 = (z, a', f') := ⟨_, _, _, rfl⟩
  obtain ⟨da, aD, fD, eD⟩ : ∃ n a' f', rBytes xs aG fG 64 = (n, a', f') := ⟨_, _, _, rfl⟩
  have hdec : decBlk xs l a f = (⟨t, n, fl, da⟩, aD, rAsk (decide (fD = 0) && !tellsB ⟨t, n, fl, da⟩) fD) := by
    unfold decBlk
    simp only [decT, decN, eT, eN, eG, decD_eq xs t n fl, eD]
  unfold RdBlkP
  rw [hdec]
  dsimp only
  have hw1 := want_c (most := 255) hm0.rd (by unfold U64; omega)
  rw [rWant_eq, eT] at hw1
  dsimp only at hw1
  have hut : U64 t := by have := rNum_lt xs a f 281474976710655 (by omega); rw [eT] at this; exact this
  have hun : U64 n := by have := rNum_lt xs aT (rAsk (tyBad t l) fT) 281474976710655 (by omega); rw [eN] at this; exact this
  have hdl : da.length ≤ 100000000000 := by have := rBytes_len eD; omega
  have HN := Lib.hid hN
  have HB := Lib.hid hb
  have HE := Lib.hid (And.intro eN (And.intro eG eD))
  have H0 := Lib.hid (And.intro hW0 hm0)
  have HU := Lib.hid (And.intro hut (And.intro hun hdl))
  have hmf : ∀ (fn : Fn) (first cap : Array Value) (w : World), (Instr.makeFunc fn first cap).run Try.prog w = .ok (.func fn first cap) w := fun _ _ _ _ => rfl
  rw [hN] at hbc hl ⊢
  have b0 := hm0.b
  have x0f := hm0.x.2 0
  have x0c := hm0.x.at_ 0 rfl
  clear hW0 hm0 hb hdec h hF hN eN eG eD eT hut hun hdl
  go_enter Try.func49, Try.ntmps49
  go_wp2_with (first
    | ((with_reducible show wpList _ _ _ _ _ (World.alloc (World.alloc (World.alloc w _) _) _)); rw [H0.out.1])
    | fail)
  refine hw1.mono ?_
  rintro e w1 ⟨rfl, hR1, k1⟩
  clear hw1 b0 x0f x0c
  have hm1 := H0.out.2.call hR1 k1
  have s0 := hm1.x.at_ 0 rfl
  have s0f := hm1.x.2 0
  have hm2 := hm1.set 0 (n64 t) (by simp)
  obtain ⟨w2, hw2⟩ : ∃ w2, w1.setCell ⟨w.heap.size + 2, 0, none⟩ (n64 t) = w2 := ⟨_, rfl⟩
  rw [hw2] at hm2
  have x0 := hm2.x.at_ 0 rfl
  have HS2 := Lib.hid hw2
  have HM2 := Lib.hid hm2
  have hK := kinds_c w2 t HU.out.1
  clear hR1 k1 hm1 hm2 hw2
  go_wp2_with (first
    | ((with_reducible show wpList _ _ _ _ _ (World.setCell w1 _ _)); rw [HS2.out])
    | fail)
  refine hK.mono ?_
  rintro e w3 ⟨rfl, k3⟩
  clear hK s0 s0f x0
  obtain ⟨w4, hw4⟩ : ∃ w4, w3.alloc (.cells #[.nilFunc] 132) = w4 := ⟨_, rfl⟩
  have hX : CellsAt w4 w3.heap.size [.nilFunc] := by rw [← hw4]; exact CellsAt.new w3 [.nilFunc] 132
  have hz4 : w4.heap.size = w3.heap.size + 1 := by rw [← hw4]; simp
  have k4 : KpN w3 w4 := by rw [← hw4]; exact (Kp.refl _ w3).alloc _
  obtain ⟨w5, hst, hX5, k5, hz5⟩ := box_store hX 132 #[kindV t] rfl (by kernel_rfl) (by simp [kindV_one])
  have k25 : KpN w2 w5 := k3.thenN (k4.fresh k5 (fun i e => by omega))
  have hm5 := HM2.out.quiet k25
  have x0 := hm5.x.at_ 0 rfl
  have HK := Lib.hid (And.intro hw4 hst)
  obtain ⟨kn, hkn⟩ : ∃ kn, known t = kn := ⟨_, rfl⟩
  have HKN := Lib.hid hkn
  rw [hkn]
  have ha := ask_c hm5.rd hm5.b (decide ((t : Int) < 2))
  rw [rAsk_rAsk, show (decide (255 < t) || decide ((t : Int) < 2)) = tyBad t (l.take 0) by rw [List.take_zero, tyBad_nil]; congr 1; exact decide_eq_decide.2 (by omega)] at ha
  have HM5 := Lib.hid hm5
  clear hw4 hX hz4 k4 hst hX5 k5 hz5 k25 hm5 k3 hkn
  go_wp2_with (first
    | ((with_reducible show wpList _ _ _ (Oper.mk none (Op.store 132 _ _) _ _ _ _ :: _) _ _); rw [HK.out.1]; refine wpl_skip rfl (run_store_op HK.out.2 rfl rfl) ?_)
    | fail)
  refine ha.mono ?_
  rintro e w6 ⟨⟨u6, rfl⟩, hR6, k6⟩
  have HM6 := Lib.hid (HM5.out.call hR6 k6)
  clear ha hR6 k6 x0
  go_wp2_with fail
  go_loopw [30] (fun i wr => ∃ q : Nat, q ≤ N ∧ i = .int .i64 q ∧ RB w wr F g v xs aT (rAsk (tyBad t (l.take q)) fT) w.heap.size (w.heap.size + 2) (w.heap.size + 1) [n64 t, n64 0, n64 0, .slice none 0 0]) (fun i _ => N - (intOf i).toNat)
  case atStart => exact ⟨0, Nat.zero_le _, rfl, HM6.out⟩
  case round =>
    obtain ⟨q, hq, rfl, hm⟩ := hrel
    by_cases hlt : q < N
    · have hql : q < l.length := by rw [HN.out]; exact hlt
      obtain ⟨ad, cs, rfl, -, hrow, ⟨⟨dw, rfl, hdw⟩, -⟩⟩ := (HB.out wr hm.kp).row q hql
      have hnx := tyBad_next t l q hql
      obtain ⟨y, hy⟩ : ∃ y, l[q] = y := ⟨_, rfl⟩
      rw [hy] at hrow hdw hnx
      obtain ⟨yt, yn, yf, yd⟩ := y
      dsimp only at hrow hdw hnx
      obtain ⟨dA, dc, rfl, -⟩ := hdw.form
      generalize yd.length = yl at *
      have c0 := hrow.c0
      have c1 := hrow.fld 0 rfl
      have c2 := hrow.fld 1 rfl
      have c3 := hrow.fld 2 rfl
      obtain ⟨w7, hw7⟩ : ∃ w7, wr.alloc (.cells #[n64 yt, n64 yn, n64 yf, .slice dA yl dc] 37) = w7 := ⟨_, rfl⟩
      have k7 : KpN wr w7 := by rw [← hw7]; exact (Kp.refl _ _).alloc _
      have hY : CellsAt w7 wr.heap.size [n64 yt, n64 yn, n64 yf, .slice dA yl dc] := by rw [← hw7]; exact CellsAt.new wr [n64 yt, n64 yn, n64 yf, .slice dA yl dc] 37
      have hm7 := hm.quiet k7
      have y0 := hY.at_ 0 rfl
      have x0 := hm7.x.at_ 0 rfl
      have HW7 := Lib.hid hw7
      have HM7 := Lib.hid hm7
      rw [HKN.out] at hnx
      have HNX := Lib.hid hnx
      clear hrow hdw hy hY hm hm7 k7 hw7 hnx
      rcases kn with _ | _
      · have ha := ask_c HM7.out.rd HM7.out.b false
        rw [rAsk_rAsk] at ha
        go_wp2_with (first
          | ((with_reducible show wpList _ _ _ _ _ (World.alloc wr _)); rw [HW7.out])
          | fail)
        refine ha.mono ?_
        rintro e w8 ⟨⟨u8, rfl⟩, hR8, k8⟩
        have HM8 := Lib.hid (HM7.out.call hR8 k8)
        clear ha hR8 k8 x0 y0 c0 c1 c2 c3
        go_wp2_with fail
        go_roundw
        case rel => exact ⟨q + 1, by omega, by go_num, by rw [HNX.out]; simpa using HM8.out⟩
        case measure => exact meas_up hlt
      · have ha := ask_c HM7.out.rd HM7.out.b ((yt : Int) == (t : Int))
        rw [rAsk_rAsk] at ha
        go_wp2_with (first
          | ((with_reducible show wpList _ _ _ _ _ (World.alloc wr _)); rw [HW7.out])
          | fail)
        refine ha.mono ?_
        rintro e w8 ⟨⟨u8, rfl⟩, hR8, k8⟩
        have HM8 := Lib.hid (HM7.out.call hR8 k8)
        clear ha hR8 k8 x0 y0 c0 c1 c2 c3
        go_wp2_with fail
        go_roundw
        case rel =>
          refine ⟨q + 1, by omega, by go_num, ?_⟩
          have h8 := HM8.out
          rw [int_beq] at h8
          rw [HNX.out]
          simpa using h8
        case measure => exact meas_up hlt
    · have hqn : q = N := by omega
      rw [List.take_of_length_le (by rw [HN.out]; omega)] at hm
      subst hqn
      have hw1 := want_c (most := 255) hm.rd (by unfold U64; omega)
      rw [rWant_eq, HE.out.1] at hw1
      dsimp only at hw1
      have b0 := hm.b
      have HM := Lib.hid hm
      clear hm
      go_wp2_with fail
      refine hw1.mono ?_
      rintro e w1 ⟨rfl, hR1, k1⟩
      clear hw1 b0
      have hm1 := HM.out.call hR1 k1
      have s0 := hm1.x.at_ 1 rfl
      have s0f := hm1.x.2 1
      have hm2 := hm1.set 1 (n64 n) (by simp)
      obtain ⟨w2, hw2⟩ : ∃ w2, w1.setCell ⟨w.heap.size + 2, 1, none⟩ (n64 n) = w2 := ⟨_, rfl⟩
      rw [hw2] at hm2
      have x1 := hm2.x.at_ 1 rfl
      have ha := ask_c hm2.rd hm2.b (decide ((n : Int) < 2))
      rw [rAsk_rAsk, show (decide (255 < n) || decide ((n : Int) < 2)) = nuBad n (l.take 0) by rw [List.take_zero, nuBad_nil]; congr 1; exact decide_eq_decide.2 (by omega)] at ha
      have HS2 := Lib.hid hw2
      have HM2 := Lib.hid hm2
      clear hR1 k1 hm1 hm2 hw2
      go_wp2_with (first
        | ((with_reducible show wpList _ _ _ _ _ (World.setCell w1 _ _)); rw [HS2.out])
        | fail)
      refine ha.mono ?_
      rintro e w6 ⟨⟨u6, rfl⟩, hR6, k6⟩
      have HM6 := Lib.hid (HM2.out.call hR6 k6)
      clear ha hR6 k6 x1 s0 s0f
      go_wp2_with fail
      go_loopw [55] (fun i wr => ∃ p : Nat, p ≤ q ∧ i = .int .i64 p ∧ RB w wr F g v xs aN (rAsk (nuBad n (l.take p)) fN) w.heap.size (w.heap.size + 2) (w.heap.size + 1) [n64 t, n64 n, n64 0, .slice none 0 0]) (fun i _ => q - (intOf i).toNat)
      case atStart => exact ⟨0, Nat.zero_le _, rfl, HM6.out⟩
      case round =>
        obtain ⟨p, hp, rfl, hm⟩ := hrel
        by_cases hlp : p < q
        · have hql : p < l.length := by rw [HN.out]; exact hlp
          obtain ⟨ad, cs, rfl, -, hrow, ⟨⟨dw, rfl, hdw⟩, -⟩⟩ := (HB.out wr hm.kp).row p hql
          have hnx := nuBad_next n l p hql
          obtain ⟨y, hy⟩ : ∃ y, l[p] = y := ⟨_, rfl⟩
          rw [hy] at hrow hdw hnx
          obtain ⟨yt, yn, yf, yd⟩ := y
          dsimp only at hrow hdw hnx
          obtain ⟨dA, dc, rfl, -⟩ := hdw.form
          generalize yd.length = yl at *
          have c0 := hrow.c0
          have c1 := hrow.fld 0 rfl
          have c2 := hrow.fld 1 rfl
          have c3 := hrow.fld 2 rfl
          obtain ⟨w7, hw7⟩ : ∃ w7, wr.alloc (.cells #[n64 yt, n64 yn, n64 yf, .slice dA yl dc] 37) = w7 := ⟨_, rfl⟩
          have k7 : KpN wr w7 := by rw [← hw7]; exact (Kp.refl _ _).alloc _
          have hY : CellsAt w7 wr.heap.size [n64 yt, n64 yn, n64 yf, .slice dA yl dc] := by rw [← hw7]; exact CellsAt.new wr [n64 yt, n64 yn, n64 yf, .slice dA yl dc] 37
          have hm7 := hm.quiet k7
          have y1 := hY.at_ 1 rfl
          have x1 := hm7.x.at_ 1 rfl
          have HW7 := Lib.hid hw7
          have HM7 := Lib.hid hm7
          have HNX := Lib.hid hnx
          have ha := ask_c hm7.rd hm7.b ((yn : Int) == (n : Int))
          rw [rAsk_rAsk] at ha
          clear hrow hdw hy hY hm hm7 k7 hw7 hnx
          go_wp2_with (first
            | ((with_reducible show wpList _ _ _ _ _ (World.alloc wr _)); rw [HW7.out])
            | fail)
          refine ha.mono ?_
          rintro e w8 ⟨⟨u8, rfl⟩, hR8, k8⟩
          have HM8 := Lib.hid (HM7.out.call hR8 k8)
          clear ha hR8 k8 x1 y1 c0 c1 c2 c3
          go_wp2_with fail
          go_roundw
          case rel =>
            refine ⟨p + 1, by omega, by go_num, ?_⟩
            have h8 := HM8.out
            rw [int_beq] at h8
            rw [HNX.out]
            exact h8
          case measure => exact meas_up hlp
        · have hpq : p = q := by omega
          rw [List.take_of_length_le (by rw [HN.out]; omega)] at hm
          subst hpq
          have hw1 := want_c (most := 255) hm.rd (by unfold U64; omega)
          rw [HE.out.2.1] at hw1
          dsimp only at hw1
          have b0 := hm.b
          have HM := Lib.hid hm
          clear hm
          go_wp2_with fail
          refine hw1.mono ?_
          rintro e w1 ⟨rfl, hR1, k1⟩
          clear hw1 b0
          have hm1 := HM.out.call hR1 k1
          have s0 := hm1.x.at_ 2 rfl
          have s0f := hm1.x.2 2
          have hm2 := hm1.set 2 (n64 fl) (by simp)
          obtain ⟨w2, hw2⟩ : ∃ w2, w1.setCell ⟨w.heap.size + 2, 2, none⟩ (n64 fl) = w2 := ⟨_, rfl⟩
          rw [hw2] at hm2
          have b0 := hm2.b
          have hby := rdBytes_c (most := 64) hm2.rd (by omega) (fun i hi => by have h1 := hm2.fl i hi; have h2 := hm2.lt.1; have h3 := hm2.lt.2.2.2.1; omega)
          rw [HE.out.2.2] at hby
          dsimp only at hby
          have HS2 := Lib.hid hw2
          have HM2 := Lib.hid hm2
          clear hR1 k1 hm1 hm2 hw2
          go_wp2_with (first
            | ((with_reducible show wpList _ _ _ _ _ (World.setCell w1 _ _)); rw [HS2.out])
            | fail)
          refine hby.mono ?_
          rintro e w3 ⟨u, rfl, ou, hR3, k3⟩
          clear hby b0 s0 s0f
          obtain ⟨uA, uc, rfl, -⟩ := ou.readsB.form
          have hm3 := HM2.out.call hR3 k3
          have s0 := hm3.x.at_ 3 rfl
          have s0f := hm3.x.2 3
          have hm4 := hm3.set 3 (.slice uA da.length uc) (by simp)
          obtain ⟨w4, hw4⟩ : ∃ w4, w3.setCell ⟨w.heap.size + 2, 3, none⟩ (.slice uA da.length uc) = w4 := ⟨_, rfl⟩
          have k34 : Kp (fun k => k = w.heap.size + 2) w3 w4 := by rw [← hw4]; exact kp1_set3 _ _ _
          have hz2 : w.heap.size + 2 < w2.heap.size := HM2.out.lt.2.1
          have ou4 := ou.keep k34 (fun i hi e => by have := hi.1; omega)
          rw [hw4] at hm4
          have b0 := hm4.b
          have hEr := err_c hm4.rd
          have HS4 := Lib.hid hw4
          have HM4 := Lib.hid hm4
          have HO4 := Lib.hid (And.intro ou4 hz2)
          clear hR3 k3 hm3 hm4 hw4 k34 ou ou4 hz2
          go_wp2_with (first
            | ((with_reducible show wpList _ _ _ _ _ (World.setCell w3 _ _)); rw [HS4.out])
            | fail)
          refine hEr.mono ?_
          rintro e w5 ⟨rfl, rfl⟩
          clear hEr b0 s0 s0f
          by_cases hfd : fD = 0
          · subst hfd
            have htl := tells_c (x := ⟨t, n, fl, da⟩) HO4.out.1.readsB HU.out.2.2 HU.out.1
            obtain ⟨T, hT⟩ : ∃ T, tellsB ⟨t, n, fl, da⟩ = T := ⟨_, rfl⟩
            rw [hT] at htl
            have HT := Lib.hid (show rAsk (!tellsB ⟨t, n, fl, da⟩) 0 = rAsk (!T) 0 by rw [hT])
            have hld := run_loadAt_rowat (P := Try.prog) HM4.out.x.1 Try.underlying37 rfl blkInfoS
            have HLD := Lib.hid hld
            clear hld hT
            go_wp2_with (first
              | ((with_reducible show wpList _ _ _ (Oper.mk (some 78) (Op.load _ _) _ _ _ _ :: _) _ _); refine wpl_vg rfl (run_load_opv HLD.out rfl) ?_)
              | fail)
            refine htl.mono ?_
            rintro e w6 ⟨rfl, k6⟩
            have hm6 := HM4.out.quiet k6
            have ha := ask_c hm6.rd hm6.b (!T)
            have ou6 := HO4.out.1.keepN k6
            have HM6 := Lib.hid (And.intro hm6 ou6)
            clear htl hm6 k6 ou6
            go_wp2_with fail
            refine ha.mono ?_
            rintro e w7 ⟨⟨u7, rfl⟩, hR7, k7⟩
            have hm7 := HM6.out.1.call hR7 k7
            have ou7 := HM6.out.2.keep k7 (fun i hi hf => by have h1 := HM6.out.1.fl i hf; have h2 := hi.1; have h3 := HO4.out.2; omega)
            obtain ⟨w8, hst, hX8, k8, hz8⟩ := box_store hm7.r 37 #[n64 t, n64 n, n64 fl, .slice uA da.length uc] rfl (by kernel_rfl) (by kernel_rfl)
            have hld7 := run_loadAt_rowat (P := Try.prog) hm7.x.1 Try.underlying37 rfl blkInfoS
            have k08 := hm7.kp.trans k8 (U := F) (fun _ _ x => x) (fun i hi e => by omega)
            have ou8 := (ou7.keep k8 (fun i hi e => by have h2 := hi.1; have h3 := HO4.out.2; omega)).wide (G := Iv w.heap.size w8.heap.size) (fun i hi hh => ⟨by have h2 := hh.1; have h3 := HO4.out.2; omega, hi⟩)
            have hR8 := hm7.rd.keep k8 (fun i hi e => by have h1 := HM6.out.1.fl i hi; omega)
            have HF := Lib.hid (And.intro hst (And.intro hld7 (And.intro hX8 (And.intro ou8 (And.intro hR8 k08)))))
            clear ha hR7 k7 hm7 ou7 hst hX8 k8 hz8 hld7 k08 ou8 hR8
            go_wp2_with (first
              | ((with_reducible show wpList _ _ _ (Oper.mk _ (Op.load _ _) _ _ _ _ :: _) _ _); refine wpl_val rfl (run_load_opv HF.out.2.1 rfl) ?_)
              | ((with_reducible show wpList _ _ _ (Oper.mk _ (Op.store _ _ _) _ _ _ _ :: _) _ _); refine wpl_skip rfl (run_store_op HF.out.1 rfl rfl) ?_)
              | fail)
            (try simp only [Exit.inBlock, Exit.then])
            refine bodyPost_ret (results_cell_at rfl _ _ rfl HF.out.2.2.1.1 Try.underlying37 rfl (by kernel_rfl)) rfl ?_
            exact ⟨_, rfl, HF.out.2.2.2.1, by rw [HT.out]; exact HF.out.2.2.2.2.1, HF.out.2.2.2.2.2⟩
          · have hfd' : (fD == 0) = false := by simp [hfd]
            have ha := ask_c HM4.out.rd HM4.out.b false
            have HM6 := Lib.hid (And.intro HM4.out HO4.out.1)
            have HT := Lib.hid (show rAsk (decide (fD = 0) && !tellsB ⟨t, n, fl, da⟩) fD = rAsk false fD by simp [hfd])
            go_wp2_with fail
            refine ha.mono ?_
            rintro e w7 ⟨⟨u7, rfl⟩, hR7, k7⟩
            have hm7 := HM6.out.1.call hR7 k7
            have ou7 := HM6.out.2.keep k7 (fun i hi hf => by have h1 := HM6.out.1.fl i hf; have h2 := hi.1; have h3 := HO4.out.2; omega)
            obtain ⟨w8, hst, hX8, k8, hz8⟩ := box_store hm7.r 37 #[n64 t, n64 n, n64 fl, .slice uA da.length uc] rfl (by kernel_rfl) (by kernel_rfl)
            have hld7 := run_loadAt_rowat (P := Try.prog) hm7.x.1 Try.underlying37 rfl blkInfoS
            have k08 := hm7.kp.trans k8 (U := F) (fun _ _ x => x) (fun i hi e => by omega)
            have ou8 := (ou7.keep k8 (fun i hi e => by have h2 := hi.1; have h3 := HO4.out.2; omega)).wide (G := Iv w.heap.size w8.heap.size) (fun i hi hh => ⟨by have h2 := hh.1; have h3 := HO4.out.2; omega, hi⟩)
            have hR8 := hm7.rd.keep k8 (fun i hi e => by have h1 := HM6.out.1.fl i hi; omega)
            have HF := Lib.hid (And.intro hst (And.intro hld7 (And.intro hX8 (And.intro ou8 (And.intro hR8 k08)))))
            clear ha hR7 k7 hm7 ou7 hst hX8 k8 hz8 hld7 k08 ou8 hR8
            go_wp2_with (first
              | ((with_reducible show wpList _ _ _ (Oper.mk _ (Op.load _ _) _ _ _ _ :: _) _ _); refine wpl_val rfl (run_load_opv HF.out.2.1 rfl) ?_)
              | ((with_reducible show wpList _ _ _ (Oper.mk _ (Op.store _ _ _) _ _ _ _ :: _) _ _); refine wpl_skip rfl (run_store_op HF.out.1 rfl rfl) ?_)
              | fail)
            (try simp only [Exit.inBlock, Exit.then])
            refine bodyPost_ret (results_cell_at rfl _ _ rfl HF.out.2.2.1.1 Try.underlying37 rfl (by kernel_rfl)) rfl ?_
            exact ⟨_, rfl, HF.out.2.2.2.1, by rw [HT.out]; exact HF.out.2.2.2.2.1, HF.out.2.2.2.2.2⟩
end Go.Proofs.Yteokkpmndfekoaa
