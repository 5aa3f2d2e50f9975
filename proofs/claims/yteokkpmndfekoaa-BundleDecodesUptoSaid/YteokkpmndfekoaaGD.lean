/- the document's want, block. -/
import Derived.Test.YteokkpmndfekoaaGA
import Derived.Test.YteokkpmndfekoaaFB
namespace Go.Proofs.Yteokkpmndfekoaa
open Go Go.RowKit Go.ChangeShapes Go.WideShapes Go.ChangeAt
set_option maxRecDepth 100000

theorem rTake_le (xs : List UInt8) (a : Nat) (f n : Int) (h : a ≤ xs.length) : (rTake xs a f n).2.1 ≤ xs.length := by
  unfold rTake
  split
  · exact h
  · split
    · exact h
    · split
      · exact h
      · show a + n.toNat ≤ xs.length
        omega
theorem rBytes_le (xs : List UInt8) (a : Nat) (f most : Int) (h : a ≤ xs.length) : (rBytes xs a f most).2.1 ≤ xs.length := by
  unfold rBytes
  split
  · exact h
  · split
    · exact h
    · split
      · exact h
      · exact rTake_le _ _ _ _ (rNum_le _ _ _ _ h)
theorem rWant_le (xs : List UInt8) (a : Nat) (f : Int) (most : Nat) (h : a ≤ xs.length) : (rWant xs a f most).2.1 ≤ xs.length := rNum_le _ _ _ _ h
theorem rNum_keep {xs : List UInt8} {a most : Nat} {f : Int} (h : f ≠ 0) : (rNum xs a f most).2.2 = f := by unfold rNum; rw [if_pos h]
theorem rAsk_true {f : Int} : rAsk true f ≠ 0 := by
  unfold rAsk rF
  simp only [if_true]
  split
  · simp
  · assumption
theorem headed_ne1 (t n f : Nat) (l : List Blk) : (((headed t n f l : Nat) : Int) != 1) = !tyBad t l := by
  unfold headed
  rcases hb : tyBad t l with _ | _ <;> rcases hc : nuBad n l with _ | _ <;> simp
  split <;> simp
theorem headed_ne2 (t n : Nat) (l : List Blk) : (((headed t n 0 l : Nat) : Int) != 2) = !(!tyBad t l && nuBad n l) := by
  unfold headed
  rcases hb : tyBad t l with _ | _ <;> rcases hc : nuBad n l with _ | _ <;> simp
set_option maxHeartbeats 1600000 in
theorem rwant_c {w : World} {F : Nat → Prop} {g : Nat} {f : Int} {ys : List UInt8} (h : RefC w F g ys f) (ok : Bool) :
    Calls Try.prog 54 #[.pointer (some ⟨g, 0, none⟩), .bool ok] w fun e w' => (∃ u, e = .returned u) ∧ RefC w' F g ys (rAsk (!ok) f) ∧ Kp F w w' := by
  cases ok
  · have hF := rfFail_c (e := 20) h
    clear h
    go_enter Try.func54, Try.ntmps54
    go_wp2_with fail
    refine hF.mono ?_
    rintro e w3 ⟨⟨u, rfl⟩, hR3, k3⟩
    have HF := Lib.hid (And.intro hR3 k3)
    clear hR3 k3 hF
    go_wp2_with fail
    go_end0
    exact ⟨⟨_, rfl⟩, HF.out.1, HF.out.2⟩
  · have HF := Lib.hid h
    clear h
    go_enter Try.func54, Try.ntmps54
    go_wp2_with fail
    go_end0
    exact ⟨⟨_, rfl⟩, HF.out, Kp.refl _ _⟩
/-- the Reader, the block that is read, the result's place -/
structure RQ (w W : World) (F : Nat → Prop) (g : Nat) (xs : List UInt8) (a : Nat) (f : Int) (X R : Nat) (cs zs : List Value) : Prop where
  rd : RefC W F g (xs.drop a) f
  le : a ≤ xs.length
  x : CellsAt W X cs
  r : CellsAt W R zs
  kp : Kp F w W
  lt : X < W.heap.size ∧ R < W.heap.size ∧ R ≠ X ∧ (w.heap.size ≤ R ∨ ¬ F R) ∧ w.heap.size ≤ X
  fl : ∀ i, F i → i < w.heap.size
section
variable {w W W' : World} {F : Nat → Prop} {g a a' X R : Nat} {f f' : Int} {xs : List UInt8} {cs zs : List Value}
theorem RQ.call (h : RQ w W F g xs a f X R cs zs) (hr : RefC W' F g (xs.drop a') f') (ha : a' ≤ xs.length) (k : Kp F W W') : RQ w W' F g xs a' f' X R cs zs := by
  obtain ⟨l2, l3, l4, l5, l6⟩ := h.lt
  have hz := k.size
  have hR : ¬ F R := fun hf => by
    rcases l5 with hh | hh
    · have := h.fl R hf; omega
    · exact hh hf
  exact ⟨hr, ha, h.x.keep l2 k (fun hf => by have := h.fl X hf; omega), h.r.keep l3 k hR, h.kp.trans k (fun _ _ x => x) (fun _ _ x => x), ⟨by omega, by omega, l4, l5, l6⟩, h.fl⟩
theorem RQ.quiet (h : RQ w W F g xs a f X R cs zs) (k : KpN W W') : RQ w W' F g xs a f X R cs zs := h.call (h.rd.keepN k) h.le (k.mono (fun _ _ x => x.elim))
theorem RQ.own (h : RQ w W F g xs a f X R cs zs) {S : Nat → Prop} (k : Kp S W W') (hs : ∀ i, S i → w.heap.size ≤ i ∧ i ≠ X ∧ i ≠ R) : RQ w W' F g xs a f X R cs zs := by
  obtain ⟨l2, l3, l4, l5, l6⟩ := h.lt
  have hz := k.size
  exact ⟨h.rd.keep k (fun i hi hh => by have := h.fl i hi; have := (hs i hh).1; omega), h.le, h.x.keep l2 k (fun hh => (hs _ hh).2.1 rfl), h.r.keep l3 k (fun hh => (hs _ hh).2.2 rfl), h.kp.trans k (fun _ _ x => x) (fun i hi hh => by have := (hs i hh).1; omega), ⟨by omega, by omega, l4, l5, l6⟩, h.fl⟩
theorem RQ.set (h : RQ w W F g xs a f X R cs zs) (i : Nat) (u : Value) (hi : i < cs.length) : RQ w (W.setCell ⟨X, i, none⟩ u) F g xs a f X R (cs.set i u) zs := by
  obtain ⟨l2, l3, l4, l5, l6⟩ := h.lt
  have ks : Kp (fun k => k = X) W (W.setCell ⟨X, i, none⟩ u) := kp1_set3 X i u
  exact ⟨h.rd.keep ks (fun j hj e => by have := h.fl j hj; omega), h.le, h.x.set i u hi, h.r.keep l3 ks l4, h.kp.setCell (p := ⟨X, i, none⟩) (.inr l6) u, ⟨by simpa using l2, by simpa using l3, l4, l5, l6⟩, h.fl⟩
end
def RRdBlkP (xs : List UInt8) (F : Nat → Prop) (g : Nat) (l : List Blk) (a : Nat) (f : Int) (w : World) (e : Ending) (w' : World) : Prop :=
  ∃ u, e = .returned (blkV (decBlk xs l a f).1 u) ∧ OwB w' 5 (Iv w.heap.size w'.heap.size) u (decBlk xs l a f).1.da ∧ RefC w' F g (xs.drop (decBlk xs l a f).2.1) (decBlk xs l a f).2.2 ∧ (decBlk xs l a f).2.1 ≤ xs.length ∧ Kp F w w'
theorem rblkInfoS : (Try.prog.info? 40).map (·.size) = some 4 := by kernel_rfl
set_option maxHeartbeats 12800000 in
theorem rblock_c {w : World} {F : Nat → Prop} {g a : Nat} {f : Int} {bv : Value} {xs : List UInt8} {l : List Blk} (h : RefC w F g (xs.drop a) f) (ha : a ≤ xs.length) (hF : ∀ i, F i → i < w.heap.size) (hb : ∀ W, Kp F w W → SlAt W 4 BlkAt bv l) (hl : l.length ≤ 10000000) (_hxl : xs.length ≤ 100000000000) :
    Calls Try.prog 56 #[.pointer (some ⟨g, 0, none⟩), bv] w (RRdBlkP xs F g l a f w) := by
  obtain ⟨t, aT, fT, eT⟩ : ∃ t a' f', rNum xs a f 281474976710655 = (t, a', f') := ⟨_, _, _, rfl⟩
  obtain ⟨n, aN, fN, eN⟩ : ∃ z a' f', rNum xs aT (rAsk (tyBad t l) fT) 281474976710655 = (z, a', f') := ⟨_, _, _, rfl⟩
  obtain ⟨fl, aG, fG, eG⟩ : ∃ z a' f', rNum xs aN (rAsk (nuBad n l) fN) 281474976710655 = (z, a', f') := ⟨_, _, _, rfl⟩
  obtain ⟨da, aD, fD, eD⟩ : ∃ n a' f', rBytes xs aG (rAsk (decide (255 < fl)) fG) 64 = (n, a', f') := ⟨_, _, _, rfl⟩
  have hdec : decBlk xs l a f = (⟨t, n, fl, da⟩, aD, rAsk (!holds t da) fD) := by
    unfold decBlk
    simp only [decT, decN, eT, eN, rWant_eq, eG, decD, eD]
  have lT : aT ≤ xs.length := by have := rNum_le xs a f 281474976710655 ha; rw [eT] at this; exact this
  have lN : aN ≤ xs.length := by have := rNum_le xs aT (rAsk (tyBad t l) fT) 281474976710655 lT; rw [eN] at this; exact this
  have lG : aG ≤ xs.length := by have := rNum_le xs aN (rAsk (nuBad n l) fN) 281474976710655 lN; rw [eG] at this; exact this
  have lD : aD ≤ xs.length := by have := rBytes_le xs aG (rAsk (decide (255 < fl)) fG) 64 lG; rw [eD] at this; exact this
  have hask2 : rAsk (!tyBad t l && nuBad n l) fN = rAsk (nuBad n l) fN := by
    rcases hb : tyBad t l with _ | _
    · rfl
    · have : fN ≠ 0 := by
        have h2 := rNum_keep (xs := xs) (a := aT) (most := 281474976710655) (f := rAsk (tyBad t l) fT) (by rw [hb]; exact rAsk_true)
        rw [eN] at h2
        dsimp only at h2
        rw [h2, hb]
        exact rAsk_true
      rw [rAsk_ne this, rAsk_ne this]
  unfold RRdBlkP
  rw [hdec]
  dsimp only
  obtain ⟨wR, hwR⟩ : ∃ W, w.alloc (.cells #[.int .u64 0, .int .u64 0, .int .u64 0, .slice none 0 0] 40) = W := ⟨_, rfl⟩
  have kR : KpN w wR := by rw [← hwR]; exact (Kp.refl _ w).alloc _
  have hzR : wR.heap.size = w.heap.size + 1 := by rw [← hwR]; simp
  have hR : CellsAt wR w.heap.size zero4 := by rw [← hwR]; exact CellsAt.new w zero4 40
  have hn1 := rnum48_c (h.keepN kR) ha
  rw [eT] at hn1
  dsimp only at hn1
  have hut : U64 t := by have := rNum_lt xs a f 281474976710655 (by omega); rw [eT] at this; exact this
  have hun : U64 n := by have := rNum_lt xs aT (rAsk (tyBad t l) fT) 281474976710655 (by omega); rw [eN] at this; exact this
  have hdl : da.length ≤ 100000000000 := by have := rBytes_len eD; omega
  obtain ⟨bA, bc, rfl, hbc⟩ := (hb w (Kp.refl _ _)).form
  have HWR := Lib.hid (And.intro hwR (And.intro kR (And.intro hzR hR)))
  have HE := Lib.hid (And.intro eN (And.intro eG (And.intro eD hask2)))
  have HL := Lib.hid (And.intro lT (And.intro lN (And.intro lG lD)))
  have HB := Lib.hid (And.intro hb (And.intro hl hF))
  have HU := Lib.hid (And.intro hut (And.intro hun hdl))
  clear hwR kR hzR hR eN eG eD eT hask2 hdec lT lN lG lD hb hl hF hut hun hdl h
  go_enter Try.func56, Try.ntmps56
  go_wp2_with (first
    | ((with_reducible show wpList _ _ _ _ _ (World.alloc w _)); rw [HWR.out.1])
    | fail)
  refine hn1.mono ?_
  rintro e w1 ⟨rfl, hR1, k1⟩
  clear hn1
  have hz1 := k1.size
  obtain ⟨w2, hw2⟩ : ∃ W, w1.alloc (.cells #[n64 t, .int .u64 0, .int .u64 0, .slice none 0 0] 40) = W := ⟨_, rfl⟩
  have k2 : KpN w1 w2 := by rw [← hw2]; exact (Kp.refl _ w1).alloc _
  have hz2 : w2.heap.size = w1.heap.size + 1 := by rw [← hw2]; simp
  have hX2 : CellsAt w2 w1.heap.size [n64 t, n64 0, n64 0, .slice none 0 0] := by rw [← hw2]; exact CellsAt.new w1 [n64 t, n64 0, n64 0, .slice none 0 0] 40
  obtain ⟨X, hXX⟩ : ∃ X, w1.heap.size = X := ⟨_, rfl⟩
  have hm2 : RQ w w2 F g xs aT fT X w.heap.size [n64 t, n64 0, n64 0, .slice none 0 0] zero4 := by
    have hzR := HWR.out.2.2.1
    have hFn : ¬ F w.heap.size := fun hf => by have := HB.out.2.2 _ hf; omega
    rw [hXX] at hX2
    refine ⟨hR1.keepN k2, HL.out.1, hX2, (HWR.out.2.2.2.keep (by omega) k1 hFn).keep (by omega) k2 (fun x => x), Kp.after HWR.out.2.1 (k1.thenN k2), ⟨by omega, by omega, by omega, .inl (Nat.le_refl _), by omega⟩, HB.out.2.2⟩
  have x0 := hm2.x.at_ 0 rfl
  have x1 := hm2.x.at_ 1 rfl
  have hh := headed_c (t := t) (n := 0) (f := 0) (da := []) (l := l) (RdB.nil w2) (HB.out.1 w2 hm2.kp) HB.out.2.1
  have HW2 := Lib.hid (And.intro hw2 hXX)
  have HM2 := Lib.hid hm2
  clear hR1 k1 hz1 hw2 k2 hz2 hX2 hm2 hXX
  go_wp2_with (first
    | ((with_reducible show wpList _ _ _ _ _ (World.alloc w1 _)); rw [HW2.out.1, HW2.out.2])
    | fail)
  refine hh.mono ?_
  rintro e w3 ⟨rfl, k3⟩
  clear hh x0 x1
  have hm3 := HM2.out.quiet k3
  have hwt := rwant_c hm3.rd (((headed t 0 0 l : Nat) : Int) != 1)
  rw [show rAsk (!(((headed t 0 0 l : Nat) : Int) != 1)) fT = rAsk (tyBad t l) fT by rw [headed_ne1]; simp] at hwt
  have HM3 := Lib.hid hm3
  clear k3 hm3
  go_wp2_with fail
  refine hwt.mono ?_
  rintro e w4 ⟨⟨u4, rfl⟩, hR4, k4⟩
  clear hwt
  have hm4 := HM3.out.call hR4 HM3.out.le k4
  have hn := rnum48_c hm4.rd hm4.le
  rw [HE.out.1] at hn
  dsimp only at hn
  have HM4 := Lib.hid hm4
  clear hR4 k4 hm4
  go_wp2_with fail
  refine hn.mono ?_
  rintro e w5 ⟨rfl, hR5, k5⟩
  clear hn
  have hm5 := HM4.out.call hR5 HL.out.2.1 k5
  have s0 := hm5.x.at_ 1 rfl
  have sf := hm5.x.2 1
  have hm6 : RQ w (w5.setCell ⟨X, 1, none⟩ (n64 n)) F g xs aN fN X w.heap.size [n64 t, n64 n, n64 0, .slice none 0 0] zero4 := hm5.set 1 (n64 n) (by simp)
  obtain ⟨w6, hw6⟩ : ∃ W, w5.setCell ⟨X, 1, none⟩ (n64 n) = W := ⟨_, rfl⟩
  rw [hw6] at hm6
  have hh := headed_c (t := t) (n := n) (f := 0) (da := []) (l := l) (RdB.nil w6) (HB.out.1 w6 hm6.kp) HB.out.2.1
  have hld := run_loadAt_rowat (P := Try.prog) hm6.x.1 Try.underlying40 rfl rblkInfoS
  have HW6 := Lib.hid (And.intro hw6 hld)
  have HM6 := Lib.hid hm6
  clear hR5 k5 hm5 hw6 hm6 hld
  go_wp2_with (first
    | ((with_reducible show wpList _ _ _ _ _ (World.setCell w5 _ _)); rw [HW6.out.1])
    | ((with_reducible show wpList _ _ _ (Oper.mk _ (Op.load 40 _) _ _ _ _ :: _) _ _); refine wpl_val rfl (run_load_opv HW6.out.2 rfl) ?_)
    | fail)
  refine hh.mono ?_
  rintro e w7 ⟨rfl, k7⟩
  clear hh s0 sf
  have hm7 := HM6.out.quiet k7
  have hwt := rwant_c hm7.rd (((headed t n 0 l : Nat) : Int) != 2)
  rw [show rAsk (!(((headed t n 0 l : Nat) : Int) != 2)) fN = rAsk (nuBad n l) fN by rw [headed_ne2, Bool.not_not]; exact HE.out.2.2.2] at hwt
  have HM7 := Lib.hid hm7
  clear k7 hm7
  go_wp2_with fail
  refine hwt.mono ?_
  rintro e w8 ⟨⟨u8, rfl⟩, hR8, k8⟩
  clear hwt
  have hm8 := HM7.out.call hR8 HM7.out.le k8
  have hn := rnum48_c hm8.rd hm8.le
  rw [HE.out.2.1] at hn
  dsimp only at hn
  have HM8 := Lib.hid hm8
  clear hR8 k8 hm8
  go_wp2_with fail
  refine hn.mono ?_
  rintro e w9 ⟨rfl, hR9, k9⟩
  clear hn
  have hm9 := HM8.out.call hR9 HL.out.2.2.1 k9
  have s0 := hm9.x.at_ 2 rfl
  have sf := hm9.x.2 2
  have hm10 : RQ w (w9.setCell ⟨X, 2, none⟩ (n64 fl)) F g xs aG fG X w.heap.size [n64 t, n64 n, n64 fl, .slice none 0 0] zero4 := hm9.set 2 (n64 fl) (by simp)
  obtain ⟨w10, hw10⟩ : ∃ W, w9.setCell ⟨X, 2, none⟩ (n64 fl) = W := ⟨_, rfl⟩
  rw [hw10] at hm10
  have x2 := hm10.x.at_ 2 rfl
  have hwt := rwant_c hm10.rd (decide ((fl : Int) ≤ 255))
  rw [show rAsk (!decide ((fl : Int) ≤ 255)) fG = rAsk (decide (255 < fl)) fG by congr 1; rw [← decide_not]; exact decide_eq_decide.2 (by omega)] at hwt
  have HW10 := Lib.hid hw10
  have HM10 := Lib.hid hm10
  clear hR9 k9 hm9 hw10 hm10
  go_wp2_with (first
    | ((with_reducible show wpList _ _ _ _ _ (World.setCell w9 _ _)); rw [HW10.out])
    | fail)
  refine hwt.mono ?_
  rintro e w11 ⟨⟨u11, rfl⟩, hR11, k11⟩
  clear hwt s0 sf x2
  have hm11 := HM10.out.call hR11 HM10.out.le k11
  have hby := rfBytes_c (most := 64) hm11.rd (by omega)
  rw [HE.out.2.2.1] at hby
  (try dsimp only at hby)
  have HM11 := Lib.hid hm11
  clear hR11 k11 hm11
  go_wp2_with fail
  refine hby.mono ?_
  rintro e w12 ⟨u, rfl, ou, hR12, k12⟩
  clear hby
  obtain ⟨uA, uc, rfl, -⟩ := ou.readsB.form
  have hm12 := HM11.out.call hR12 HL.out.2.2.2 k12
  have s0 := hm12.x.at_ 3 rfl
  have sf := hm12.x.2 3
  have hm13 : RQ w (w12.setCell ⟨X, 3, none⟩ (.slice uA da.length uc)) F g xs aD fD X w.heap.size [n64 t, n64 n, n64 fl, .slice uA da.length uc] zero4 := hm12.set 3 (.slice uA da.length uc) (by simp)
  obtain ⟨w13, hw13⟩ : ∃ W, w12.setCell ⟨X, 3, none⟩ (.slice uA da.length uc) = W := ⟨_, rfl⟩
  have kX : Kp (fun i => i = X) w12 w13 := by rw [← hw13]; exact kp1_set3 _ _ _
  have hXl : X < w11.heap.size ∧ w.heap.size < w11.heap.size := by have := HM11.out.lt; omega
  have ou13 := ou.keep kX (fun i hi e => by have := hi.1; omega)
  rw [hw13] at hm13
  have x0 := hm13.x.at_ 0 rfl
  have x3 := hm13.x.at_ 3 rfl
  have hho := rholds_c (k := t) ou13.readsB HU.out.2.2
  obtain ⟨H, hH⟩ : ∃ z, holds t da = z := ⟨_, rfl⟩
  rw [hH] at hho
  have HW13 := Lib.hid (And.intro hw13 (And.intro ou13 hXl))
  have HM13 := Lib.hid (And.intro hm13 hH)
  clear hR12 k12 hm12 hw13 kX ou ou13 hm13 hXl hH
  go_wp2_with (first
    | ((with_reducible show wpList _ _ _ _ _ (World.setCell w12 _ _)); rw [HW13.out.1])
    | fail)
  refine hho.mono ?_
  rintro e w14 ⟨rfl, k14⟩
  clear hho s0 sf x0 x3
  have hm14 := HM13.out.1.quiet k14
  have hwt := rwant_c hm14.rd H
  have HM14 := Lib.hid (And.intro hm14 (HW13.out.2.1.keepN k14))
  clear k14 hm14
  go_wp2_with fail
  refine hwt.mono ?_
  rintro e w15 ⟨⟨u15, rfl⟩, hR15, k15⟩
  clear hwt
  have hm15 := HM14.out.1.call hR15 HM14.out.1.le k15
  have ou15 := HM14.out.2.keep k15 (fun i hi hf => by have := HB.out.2.2 i hf; have := hi.1; have := HW13.out.2.2; omega)
  obtain ⟨wf, hst, hXf, kf, hzf⟩ := box_store hm15.r 40 #[n64 t, n64 n, n64 fl, .slice uA da.length uc] rfl (by kernel_rfl) (by kernel_rfl)
  have hld := run_loadAt_rowat (P := Try.prog) hm15.x.1 Try.underlying40 rfl rblkInfoS
  have hRf := hm15.rd.keep kf (fun i hi e => by have := HB.out.2.2 i hi; omega)
  have ouf := (ou15.keep kf (fun i hi e => by have := hi.1; have := HW13.out.2.2; omega)).wide (G := Iv w.heap.size wf.heap.size) (fun i hi hh => ⟨by have := hh.1; have := HW13.out.2.2; omega, hi⟩)
  have kfin := hm15.kp.trans kf (U := F) (fun _ _ x => x) (fun i hi e => by omega)
  have HF := Lib.hid (And.intro hst (And.intro hld (And.intro hXf (And.intro ouf (And.intro hRf (And.intro kfin hm15.le))))))
  clear hR15 k15 hm15 ou15 hst hXf kf hzf hld hRf ouf kfin
  go_wp2_with (first
    | ((with_reducible show wpList _ _ _ (Oper.mk _ (Op.load _ _) _ _ _ _ :: _) _ _); refine wpl_val rfl (run_load_opv HF.out.2.1 rfl) ?_)
    | ((with_reducible show wpList _ _ _ (Oper.mk _ (Op.store _ _ _) _ _ _ _ :: _) _ _); refine wpl_skip rfl (run_store_op HF.out.1 rfl rfl) ?_)
    | fail)
  (try simp only [Exit.inBlock, Exit.then])
  refine bodyPost_ret (results_cell_at rfl _ _ rfl HF.out.2.2.1.1 Try.underlying40 rfl (by kernel_rfl)) rfl ?_
  exact ⟨_, rfl, HF.out.2.2.2.1, by rw [HM13.out.2]; exact HF.out.2.2.2.2.1, HF.out.2.2.2.2.2.2, HF.out.2.2.2.2.2.1⟩
end Go.Proofs.Yteokkpmndfekoaa
