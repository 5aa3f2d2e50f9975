/- bundle.Decode. -/
import Derived.Test.YteokkpmndfekoaaGB
import Derived.LoopN
import Derived.Deep.DeepCutAuto
import Derived.Deep.CutBlock
namespace Go.Proofs.Yteokkpmndfekoaa
open Go Go.RowKit Go.ChangeShapes Go.WideShapes Go.ChangeAt
set_option maxRecDepth 100000

/-- the Reader, the bundle that is read, the result's place -/
structure DC (w1 W : World) (F : Nat → Prop) (g : Nat) (v : Value) (xs : List UInt8) (a : Nat) (f : Int) (X R : Nat) (cs : List Value) : Prop where
  rd : RdrC W F g v xs a f
  x : CellsAt W X cs
  r : CellsAt W R zeros12.toList
  kp : Kp F w1 W
  lt : X < W.heap.size ∧ R < w1.heap.size ∧ w1.heap.size ≤ X
  fl : ∀ i, F i → i < w1.heap.size ∧ i ≠ R
section
variable {w1 W W' : World} {F : Nat → Prop} {g a a' X R : Nat} {f f' : Int} {v : Value} {xs : List UInt8} {cs : List Value}
theorem DC.call (h : DC w1 W F g v xs a f X R cs) (hr : RdrC W' F g v xs a' f') (k : Kp F W W') : DC w1 W' F g v xs a' f' X R cs := by
  obtain ⟨l1, l2, l3⟩ := h.lt
  have hz := k.size
  have hz1 := h.kp.size
  exact ⟨hr, h.x.keep l1 k (fun hf => by have := (h.fl _ hf).1; omega), h.r.keep (by omega) k (fun hf => (h.fl _ hf).2 rfl), h.kp.trans k (fun _ _ x => x) (fun _ _ x => x), ⟨by omega, l2, l3⟩, h.fl⟩
theorem DC.quiet (h : DC w1 W F g v xs a f X R cs) (k : KpN W W') : DC w1 W' F g v xs a f X R cs := h.call (h.rd.keepN k) (k.mono (fun _ _ x => x.elim))
/-- what lies behind w1, but for X, may change -/
theorem DC.own (h : DC w1 W F g v xs a f X R cs) {S : Nat → Prop} (k : Kp S W W') (hs : ∀ i, S i → w1.heap.size ≤ i ∧ i ≠ X) : DC w1 W' F g v xs a f X R cs := by
  obtain ⟨l1, l2, l3⟩ := h.lt
  have hz := k.size
  have hz1 := h.kp.size
  exact ⟨h.rd.keep k (fun i hi hh => by have := (h.fl i hi).1; have := (hs i hh).1; omega), h.x.keep l1 k (fun hh => (hs _ hh).2 rfl), h.r.keep (by omega) k (fun hh => by have := (hs _ hh).1; omega), h.kp.trans k (fun _ _ x => x) (fun i hi hh => by have := (hs i hh).1; omega), ⟨by omega, l2, l3⟩, h.fl⟩
theorem DC.set (h : DC w1 W F g v xs a f X R cs) (i : Nat) (u : Value) (hi : i < cs.length) : DC w1 (W.setCell ⟨X, i, none⟩ u) F g v xs a f X R (cs.set i u) := by
  obtain ⟨l1, l2, l3⟩ := h.lt
  have hz1 := h.kp.size
  have ks : Kp (fun k => k = X) W (W.setCell ⟨X, i, none⟩ u) := kp1_set3 X i u
  exact ⟨h.rd.keep ks (fun j hj e => by have := (h.fl j hj).1; omega), h.x.set i u hi, h.r.keep (by omega) ks (fun e => by omega), h.kp.setCell (p := ⟨X, i, none⟩) (.inr l3) u, ⟨by simpa using l1, l2, l3⟩, h.fl⟩
end
def DecQ (B : Bdl) (E : Int) (w : World) (e : Ending) (w' : World) : Prop :=
  ∃ bv pv ls, e = .returned (.tuple #[bdV B bv pv, .int .i64 E]) ∧ OwBd w' 37 (Iv w.heap.size w'.heap.size) bv pv B ls ∧ KpN w w'
def DecP (xs : List UInt8) (w : World) (e : Ending) (w' : World) : Prop := DecQ (decB xs) (decE xs) w e w'
theorem addr_add0 (ad : Addr) : ad.add 0 = ad := by unfold Addr.add; split <;> simp_all
theorem ne6 (x : UInt8) : ((x.toNat : Int) != 6) = !(x == 6) := by
  have h : ((x.toNat : Int) == 6) = (x == 6) := by
    rw [Bool.eq_iff_iff]
    simp only [beq_iff_eq]
    constructor
    · intro e
      apply UInt8.toNat_inj.1
      show x.toNat = 6
      omega
    · rintro rfl
      rfl
  show (!((x.toNat : Int) == 6)) = _
  rw [h]
theorem run_storeAt_one {P : Program} (w : World) (b o : Nat) (ty : TypeId) (v : Value) (hc : (w.cell? ⟨b, o, none⟩).isSome = true) (hf : w.frozen? ⟨b, o, none⟩ = false) (hi : (P.info? ty).map (·.size) = some 1) (hv : v.cells = #[v]) (h1 : v.oneCell' = true) :
    (Instr.storeAt ty (.pointer (some ⟨b, o, none⟩)) v).run P w = .ok () (w.setCell ⟨b, o, none⟩ v) := by
  have := run_storeCells_cells (P := P) b o [v] 0 w (fun j hj => by obtain rfl : j = 0 := (by simpa using hj); exact hc) (fun j hj => by obtain rfl : j = 0 := (by simpa using hj); exact hf)
    (fun u hu => by obtain rfl : u = v := (by simpa using hu); exact h1)
  cases hq : P.info? ty with
  | none => simp [hq] at hi
  | some i =>
    have hs : i.size = 1 := by simpa [hq] using hi
    simp only [Nat.add_zero] at this
    simp [Instr.storeAt, Instr.sureAddr, storeVar, sizeOf, typeInfo, hq, hv, hs, this, World.setCells]
theorem own_one {w : World} {e size n : Nat} {F : Nat → Prop} {v : Value} {cs : List Value} (h : OwC w e size F v n cs) : v.oneCell' = true := by
  obtain ⟨_, A, c, rfl, _⟩ := h.reads
  rfl
theorem own_cells {w : World} {e size n : Nat} {F : Nat → Prop} {v : Value} {cs : List Value} (h : OwC w e size F v n cs) : v.cells = #[v] := by
  obtain ⟨_, A, c, rfl, _⟩ := h.reads
  rfl
theorem decBlk_u64 {xs : List UInt8} {l : List Blk} {a a2 : Nat} {f f2 : Int} {x : Blk} (h : decBlk xs l a f = (x, a2, f2)) : U64 x.ty ∧ U64 x.nu ∧ U64 x.fl := by
  have h1 := congrArg Prod.fst h
  unfold decBlk at h1
  dsimp only at h1
  subst h1
  refine ⟨rNum_lt _ _ _ _ (by omega), rNum_lt _ _ _ _ (by omega), ?_⟩
  unfold rWant
  exact rNum_lt _ _ _ _ (by omega)
theorem rTake1 (xs : List UInt8) : ((rTake xs 0 0 1).1 = [] ∧ (rTake xs 0 0 1).2.2 ≠ 0) ∨ ∃ x, (rTake xs 0 0 1).1 = [x] := by
  unfold rTake
  rw [if_neg (by simp), if_neg (by omega)]
  split
  · exact .inl ⟨rfl, by simp⟩
  · rename_i h
    rcases xs with _ | ⟨x, r⟩
    · simp at h
    · exact .inr ⟨x, by simp⟩
theorem decB_ok (xs : List UInt8) : BdOk (decB xs) := by
  have u : ∀ {n m : Nat}, n ≤ m → m < 18446744073709551616 → U64 n := fun h1 h2 => by unfold U64; omega
  unfold decB
  split
  · have h9 := decNine_lt xs 9 (rWant xs (decV xs).1 (decV xs).2 7).2.1 (rWant xs (decV xs).1 (decV xs).2 7).2.2
    have hg : ∀ j, U64 ((decNine xs 9 (rWant xs (decV xs).1 (decV xs).2 7).2.1 (rWant xs (decV xs).1 (decV xs).2 7).2.2).1.getD j 0) := fun j => by
      by_cases hj : j < (decNine xs 9 (rWant xs (decV xs).1 (decV xs).2 7).2.1 (rWant xs (decV xs).1 (decV xs).2 7).2.2).1.length
      · rw [List.getD_eq_getElem?_getD, List.getElem?_eq_getElem hj]
        exact u (h9 _ (List.getElem_mem hj)) (by omega)
      · rw [List.getD_eq_getElem?_getD, List.getElem?_eq_none (by omega)]
        unfold U64
        simp
    exact ⟨u (rNum_most _ _ _ _) (by omega), hg 0, hg 1, hg 2, hg 3, hg 4, hg 5, hg 6, hg 7, hg 8⟩
  · unfold BdOk U64 noBdl
    simp
set_option maxHeartbeats 25600000 in
theorem decode_c {w : World} {v : Value} {xs : List UInt8} (h : RdB w v xs) (hl : xs.length ≤ 100000000) : Calls Try.prog 23 #[v] w (DecP xs w) := by
  obtain ⟨A, c, rfl, -⟩ := h.form
  obtain ⟨L, hL⟩ : ∃ L, xs.length = L := ⟨_, rfl⟩
  have hok := decB_ok xs
  have hE0 : decE xs = if 1024 < xs.length then 81 else (decAll xs).2.2 := rfl
  have hB0 : decB xs = if decE xs = 0 then (decAll xs).1 else noBdl := rfl
  unfold DecP
  obtain ⟨DE, hDE⟩ : ∃ z, decE xs = z := ⟨_, rfl⟩
  obtain ⟨DB, hDB⟩ : ∃ z, decB xs = z := ⟨_, rfl⟩
  rw [hDE] at hE0 hB0 ⊢
  rw [hDB] at hB0 hok ⊢
  -- what is read
  obtain ⟨fs, a0, f0, e0⟩ : ∃ x y z, rTake xs 0 0 1 = (x, y, z) := ⟨_, _, _, rfl⟩
  obtain ⟨fv, hfv⟩ : ∃ z, (if fs = [6] then f0 else rF f0 20) = z := ⟨_, rfl⟩
  obtain ⟨fl, a', f', ef⟩ : ∃ x y z, rWant xs a0 fv 7 = (x, y, z) := ⟨_, _, _, rfl⟩
  obtain ⟨z1, a1, f1, e1⟩ : ∃ x y z, rNum xs a' f' 281474976710655 = (x, y, z) := ⟨_, _, _, rfl⟩
  obtain ⟨z2, a2, f2, e2⟩ : ∃ x y z, rNum xs a1 f1 281474976710655 = (x, y, z) := ⟨_, _, _, rfl⟩
  obtain ⟨z3, a3, f3, e3⟩ : ∃ x y z, rNum xs a2 f2 281474976710655 = (x, y, z) := ⟨_, _, _, rfl⟩
  obtain ⟨z4, a4, f4, e4⟩ : ∃ x y z, rNum xs a3 f3 281474976710655 = (x, y, z) := ⟨_, _, _, rfl⟩
  obtain ⟨z5, a5, f5, e5⟩ : ∃ x y z, rNum xs a4 f4 281474976710655 = (x, y, z) := ⟨_, _, _, rfl⟩
  obtain ⟨z6, a6, f6, e6⟩ : ∃ x y z, rNum xs a5 f5 281474976710655 = (x, y, z) := ⟨_, _, _, rfl⟩
  obtain ⟨z7, a7, f7, e7⟩ : ∃ x y z, rNum xs a6 f6 281474976710655 = (x, y, z) := ⟨_, _, _, rfl⟩
  obtain ⟨z8, a8, f8, e8⟩ : ∃ x y z, rNum xs a7 f7 281474976710655 = (x, y, z) := ⟨_, _, _, rfl⟩
  obtain ⟨z9, a9, f9, e9⟩ : ∃ x y z, rNum xs a8 f8 281474976710655 = (x, y, z) := ⟨_, _, _, rfl⟩
  obtain ⟨n, an, fn, en⟩ : ∃ x y z, rWant xs a9 f9 8 = (x, y, z) := ⟨_, _, _, rfl⟩
  obtain ⟨Bl, ab, fb, eb⟩ : ∃ x y z, decBlks xs n [] an fn = (x, y, z) := ⟨_, _, _, rfl⟩
  obtain ⟨pl, ap, fp, ep⟩ : ∃ x y z, rBytes xs ab fb 512 = (x, y, z) := ⟨_, _, _, rfl⟩
  obtain ⟨E, eE⟩ : ∃ z, rEnd xs ap fp = z := ⟨_, rfl⟩
  have hall : decAll xs = (⟨fl, z1, z2, z3, z4, z5, z6, z7, z8, z9, Bl, pl⟩, ap, E) := by
    unfold decAll decV
    simp only [e0, hfv, ef, decNine, e1, e2, e3, e4, e5, e6, e7, e8, e9, en, eb, ep, eE]
    rfl
  rw [hall] at hE0 hB0
  dsimp only at hE0 hB0
  have h1 := rTake1 xs
  rw [e0] at h1
  dsimp only at h1
  have hn8 : fn = 0 → n ≤ 8 := fun e => by
    have := rWant_zero (xs := xs) (a := a9) (f := f9) (most := 8) (by rw [en]; exact e)
    rw [en] at this
    exact this.2.1
  have hun : U64 n := by have := rNum_lt xs a9 f9 281474976710655 (by omega); have e2 := congrArg Prod.fst en; unfold rWant at e2; dsimp only at e2; unfold U64; omega
  have hpl : pl.length ≤ 100000000 := by have := rBytes_len ep; omega
  have HEQ := Lib.hid (And.intro ef (And.intro en (And.intro ep eE)))
  have HEB := Lib.hid eb
  have HHB := Lib.hid hn8
  have HE1 := Lib.hid e1
  have HE2 := Lib.hid e2
  have HE3 := Lib.hid e3
  have HE4 := Lib.hid e4
  have HE5 := Lib.hid e5
  have HE6 := Lib.hid e6
  have HE7 := Lib.hid e7
  have HE8 := Lib.hid e8
  have HE9 := Lib.hid e9
  have HRES := Lib.hid (And.intro hE0 (And.intro hB0 hok))
  obtain ⟨wR, hwR⟩ : ∃ W, w.alloc (.cells zeros12 34) = W := ⟨_, rfl⟩
  have kR : KpN w wR := by rw [← hwR]; exact (Kp.refl _ w).alloc _
  have hzR : wR.heap.size = w.heap.size + 1 := by rw [← hwR]; simp
  have hR : CellsAt wR w.heap.size zeros12.toList := by rw [← hwR]; exact CellsAt.new w zeros12.toList 34
  have HWR := Lib.hid (And.intro hwR (And.intro kR (And.intro hR hzR)))
  rw [hL] at hl h ⊢
  have HX := Lib.hid (And.intro (h.keepN kR) hL)
  clear hDE hDB hall hE0 hB0 hok ef en eb ep eE e1 e2 e3 e4 e5 e6 e7 e8 e9 hwR kR hzR hR h hL hn8
  go_enter Try.func23, Try.ntmps23
  by_cases h1024 : 1024 < L
  · have h1024' : (1024 : Int) < (L : Int) := by omega
    have hE0 := HRES.out.1
    rw [HX.out.2, if_pos h1024] at hE0
    have hB0 := HRES.out.2.1
    rw [if_neg (by rw [hE0]; simp)] at hB0
    obtain ⟨w4, hst, hX4, k4, hz4⟩ := box_store HWR.out.2.2.1 34 zeros12 rfl (by kernel_rfl) (by kernel_rfl)
    have HF := Lib.hid (And.intro hE0 (And.intro hB0 (And.intro hst (And.intro hX4 (HWR.out.2.1.fresh k4 (fun i e => by omega))))))
    clear hE0 hB0 hst hX4 k4 hz4 h1024
    go_wp2_with (first
      | ((with_reducible show wpList _ _ _ _ _ (World.alloc w _)); rw [HWR.out.1])
      | ((with_reducible show wpList _ _ _ (Oper.mk _ (Op.store _ _ _) _ _ _ _ :: _) _ _); refine wpl_skip rfl (run_store_op HF.out.2.2.1 rfl rfl) ?_)
      | fail)
    (try simp only [Exit.inBlock, Exit.then])
    refine bodyPost_ret (results_cell_tmp_at rfl _ _ rfl HF.out.2.2.2.1.1 Try.underlying34 rfl (by kernel_rfl)) rfl ?_
    unfold DecQ
    exact ⟨.slice none 0 0, .slice none 0 0, [], by rw [HF.out.1, HF.out.2.1]; rfl, by rw [HF.out.2.1]; exact OwBd.none _ _ _, HF.out.2.2.2.2⟩
  have h1024' : decide ((1024 : Int) < (L : Int)) = false := by simp; omega
  have H1024 := Lib.hid h1024
  have hnew := new_c HX.out.1 (by have := HX.out.2; omega)
  clear h1024
  go_wp2_with (first
    | ((with_reducible show wpList _ _ _ _ _ (World.alloc w _)); rw [HWR.out.1])
    | fail)
  refine hnew.mono ?_
  rintro e w1 ⟨g, rv, rfl, hR1, k1⟩
  clear hnew h1024'
  have htk := rdTake_c (n := 1) hR1 (by omega)
  rw [e0] at htk
  dsimp only at htk
  obtain ⟨F, hF⟩ : ∃ F, (Iv wR.heap.size w1.heap.size) = F := ⟨_, rfl⟩
  have hFl : ∀ i, F i → i < w1.heap.size ∧ i ≠ w.heap.size := fun i hi => by
    rw [← hF] at hi
    have := HWR.out.2.2.2
    exact ⟨hi.2, by have := hi.1; omega⟩
  have hFw : ∀ i, F i → wR.heap.size ≤ i := fun i hi => by rw [← hF] at hi; exact hi.1
  rw [hF] at htk
  have hzl := k1.size
  have HK1 := Lib.hid (And.intro k1 (And.intro hFl hFw))
  clear hR1 k1 hF hFl hFw
  go_wp2_with fail
  refine htk.mono ?_
  rintro e w2 ⟨fvv, rfl, ofs, hR2, k2⟩
  clear htk
  obtain ⟨fA, fc, rfl, -⟩ := ofs.readsB.form
  have H2 := Lib.hid (And.intro hR2 (And.intro k2 ofs.readsB))
  clear hR2 k2 ofs e0
  obtain ⟨bad, hbad, hb0, hb1⟩ : ∃ bad : Bool, fv = rAsk bad f0 ∧ (fs = [] → bad = false) ∧ (∀ x, fs = [x] → bad = !(x == 6)) := by
    rcases h1 with ⟨h1, h2⟩ | ⟨x, h1⟩
    · refine ⟨false, ?_, fun _ => rfl, fun x hx => by rw [h1] at hx; cases hx⟩
      rw [← hfv, if_neg (by rw [h1]; simp)]
      exact rF_ne h2 20
    · refine ⟨!(x == 6), ?_, (fun e => by rw [h1] at e; cases e), fun y hy => by rw [h1] at hy; injection hy with hy; subst hy; rfl⟩
      rw [← hfv, h1]
      by_cases hx : x = 6
      · subst hx
        rw [if_pos rfl]
        rfl
      · rw [if_neg (by simpa using hx)]
        have : (x == 6) = false := by simpa using hx
        rw [this]
        rfl
  have HBD := Lib.hid (And.intro hbad (And.intro hb0 hb1))
  clear hbad hb0 hb1 hfv
  go_upto_region 5 with fail
  go_cut [28] (fun tv wx => tv = .bool bad ∧ wx = w2)
  case first =>
    rcases h1 with ⟨h1, h2⟩ | ⟨x, h1⟩
    · have hv := HBD.out.2.1 h1
      subst h1
      subst hv
      clear h2
      go_wp2_with fail
      go_meet
      case rel => exact ⟨rfl, rfl⟩
    · have hv := HBD.out.2.2 x h1
      subst h1
      obtain ⟨ad, had, hc⟩ := H2.out.2.2.at_ 0 (by simp)
      subst had
      have hc : w2.cell? (ad.add 0) = some (bv x) := hc
      rw [addr_add0] at hc
      simp only [bv] at hc
      have hx6 := ne6 x
      obtain ⟨xv, hxv⟩ : ∃ z, x.toNat = z := ⟨_, rfl⟩
      rw [hxv] at hc hx6
      rw [← hx6] at hv
      have HV := Lib.hid hv
      clear hv hxv hx6
      rcases hb : ((xv : Int) != 6) with _ | _
      · rw [hb] at HV
        have hb' : ((xv : Int) == 6) = true := by simpa using hb
        have hbad := HV.out
        subst hbad
        go_wp2_with fail
        go_meet
        case rel => exact ⟨rfl, rfl⟩
      · rw [hb] at HV
        have hb' : ((xv : Int) == 6) = false := by simpa using hb
        have hbad := HV.out
        subst hbad
        go_wp2_with fail
        go_meet
        case rel => exact ⟨rfl, rfl⟩
  case rest =>
  obtain ⟨rfl, hww⟩ := hcut
  have hww2 := hww.symm
  subst hww2
  clear hww
  go_upto_if 28 with fail
  go_cut [5] (fun tv wx => tv = .slice fA fs.length fc ∧ RdrC wx F g rv xs a0 fv ∧ Kp F w1 wx)
  case first =>
    have hfl := fail_c (e := 20) H2.out.1
    cases bad
    · clear hfl
      go_wp2_with fail
      go_meet
      case rel => exact ⟨rfl, by rw [HBD.out.1]; exact H2.out.1, H2.out.2.1⟩
    · go_wp2_with fail
      refine hfl.mono ?_
      rintro e w3 ⟨⟨u3, rfl⟩, hR3, k3⟩
      have H3 := Lib.hid (And.intro hR3 (H2.out.2.1.trans k3 (fun _ _ x => x) (fun _ _ x => x)))
      clear hfl hR3 k3
      go_wp2_with fail
      go_meet
      case rel => exact ⟨rfl, by rw [HBD.out.1]; exact H3.out.1, H3.out.2⟩
  case rest =>
  obtain ⟨rfl, hR3, k3⟩ := hcut
  have hw7 := want_c (most := 7) hR3 (by unfold U64; omega)
  rw [HEQ.out.1] at hw7
  dsimp only at hw7
  have HC := Lib.hid k3
  clear hR3 k3 H2 h1
  go_wp2_with fail
  refine hw7.mono ?_
  rintro e w4 ⟨rfl, hR4, k4⟩
  clear hw7
  have hz4 := k4.size
  have hz3 := HC.out.size
  have k14 := HC.out.trans k4 (U := F) (fun _ _ x => x) (fun _ _ x => x)
  obtain ⟨wa0, hst, hXa, ka, hza⟩ : ∃ W', (Instr.storeAt 34 (.pointer (some ⟨w4.heap.size, 0, none⟩)) (.agg #[n64 fl, .int .u64 0, .int .u64 0, .int .u64 0, .int .u64 0, .int .u64 0, .int .u64 0, .int .u64 0, .int .u64 0, .int .u64 0, .slice none 0 0, .slice none 0 0])).run Try.prog (w4.alloc (.cells zeros12 34)) = .ok () W' ∧ CellsAt W' w4.heap.size [n64 fl, n64 0, n64 0, n64 0, n64 0, n64 0, n64 0, n64 0, n64 0, n64 0, .slice none 0 0, .slice none 0 0] ∧ KpN w4 W' ∧ W'.heap.size = w4.heap.size + 1 := bundle_put w4 ⟨fl, 0, 0, 0, 0, 0, 0, 0, 0, 0, [], []⟩ none none 0 0 0 0
  obtain ⟨X, hXX⟩ : ∃ X, w4.heap.size = X := ⟨_, rfl⟩
  have hm0 : DC w1 wa0 F g rv xs a' f' X w.heap.size [n64 fl, n64 0, n64 0, n64 0, n64 0, n64 0, n64 0, n64 0, n64 0, n64 0, .slice none 0 0, .slice none 0 0] := by
    have hRR : CellsAt w1 w.heap.size zeros12.toList := HWR.out.2.2.1.keep (by have := HWR.out.2.2.2; omega) HK1.out.1 (fun x => x)
    have hRR4 := hRR.keep (by have := HWR.out.2.2.2; omega) k14 (fun hf => (HK1.out.2.1 _ hf).2 rfl)
    rw [hXX] at hXa hza
    exact ⟨hR4.keepN ka, hXa, hRR4.keep (by have := HWR.out.2.2.2; omega) ka (fun x => x), k14.thenN ka, ⟨by omega, by have := HWR.out.2.2.2; omega, by omega⟩, HK1.out.2.1⟩
  have HST := Lib.hid (And.intro hst hXX)
  have HMz := Lib.hid hm0
  have hn1 := num48_c hm0.rd
  rw [HE1.out] at hn1
  dsimp only at hn1
  clear hR4 k4 k14 hst hXa ka hza hm0 HC hz3 hz4
  clear hXX
  go_wp2_with (first
    | ((with_reducible show wpList _ _ _ (Oper.mk _ (Op.store 34 _ _) _ _ _ _ :: _) _ _); refine wpl_skip rfl (run_store_op HST.out.1 rfl rfl) ?_; rw [HST.out.2])
    | fail)
  obtain ⟨wq, hwq⟩ : ∃ W, wa0.alloc (.cells #[.pointer (some ⟨X, 1, none⟩), .pointer (some ⟨X, 3, none⟩), .pointer (some ⟨X, 5, none⟩)] 99) = W := ⟨_, rfl⟩
  rw [hwq]
  have kq : KpN wa0 wq := by rw [← hwq]; exact (Kp.refl _ _).alloc _
  have hPr : CellsAt wq wa0.heap.size [.pointer (some ⟨X, 1, none⟩), .pointer (some ⟨X, 3, none⟩), .pointer (some ⟨X, 5, none⟩)] := by rw [← hwq]; exact CellsAt.new wa0 [.pointer (some ⟨X, 1, none⟩), .pointer (some ⟨X, 3, none⟩), .pointer (some ⟨X, 5, none⟩)] 99
  have hzq : wq.heap.size = wa0.heap.size + 1 := by rw [← hwq]; simp
  have hm0 := HMz.out.quiet kq
  have hxa := HMz.out.lt
  have hza := HMz.out.kp.size
  obtain ⟨Pb, hPb⟩ : ∃ z, wa0.heap.size = z := ⟨_, rfl⟩
  rw [hPb] at hPr hzq hxa
  rw [hPb]
  have hPX : Pb ≠ X := by omega
  have hP1 : w1.heap.size ≤ Pb := by omega
  have HM0 := Lib.hid hm0
  have HP0 := Lib.hid (And.intro hPr (show Pb < wq.heap.size by omega))
  have HPX := Lib.hid (And.intro hPX (And.intro hP1 hxa.2.2))
  have p0 := hPr.at_ 0 rfl
  have hn1 := num48_c hm0.rd
  rw [HE1.out] at hn1
  dsimp only at hn1
  clear hwq kq hPr hzq hm0 hxa hza hPX hP1 hPb HMz
  refine wp_loop_rounds 4 ?_
  rw [rounds_succ]
  go_wp2_with fail
  refine hn1.mono ?_
  rintro e wa1 ⟨rfl, hR1, ka1⟩
  clear hn1
  have hm := HM0.out.call hR1 ka1
  have s0 := hm.x.at_ 1 rfl
  have sf := hm.x.2 1
  have hm2 : DC w1 (wa1.setCell ⟨X, 1, none⟩ (n64 z1)) F g rv xs a1 f1 X w.heap.size [n64 fl, n64 z1, n64 0, n64 0, n64 0, n64 0, n64 0, n64 0, n64 0, n64 0, .slice none 0 0, .slice none 0 0] := hm.set 1 (n64 z1) (by simp)
  have ks : Kp (fun i => i = X) wa1 (wa1.setCell ⟨X, 1, none⟩ (n64 z1)) := kp1_set3 _ _ _
  have hzk := ka1.size
  have hp2 := (HP0.out.1.keep HP0.out.2 ka1 (fun hf => by have := (HK1.out.2.1 _ hf).1; have := HPX.out.2.1; omega)).keep (by have := HP0.out.2; omega) ks HPX.out.1
  have hp3 : Pb < (wa1.setCell ⟨X, 1, none⟩ (n64 z1)).heap.size := by have := HP0.out.2; simp; omega
  obtain ⟨wb1, hw⟩ : ∃ W, wa1.setCell ⟨X, 1, none⟩ (n64 z1) = W := ⟨_, rfl⟩
  rw [hw] at hm2 hp2 hp3
  have HS1 := Lib.hid hw
  have HM1 := Lib.hid hm2
  have HP1 := Lib.hid (And.intro hp2 hp3)
  have hn2 := num48_c hm2.rd
  rw [HE2.out] at hn2
  dsimp only at hn2
  clear hR1 ka1 hm hm2 hw ks hzk hp2 hp3
  go_wp2_with (first
    | ((with_reducible show wpList _ _ _ _ _ (World.setCell wa1 _ _)); rw [HS1.out])
    | fail)
  clear s0 sf
  refine hn2.mono ?_
  rintro e wa2 ⟨rfl, hR2, ka2⟩
  clear hn2
  have hm := HM1.out.call hR2 ka2
  have s0 := hm.x.at_ 2 rfl
  have sf := hm.x.2 2
  have hm2 : DC w1 (wa2.setCell ⟨X, 2, none⟩ (n64 z2)) F g rv xs a2 f2 X w.heap.size [n64 fl, n64 z1, n64 z2, n64 0, n64 0, n64 0, n64 0, n64 0, n64 0, n64 0, .slice none 0 0, .slice none 0 0] := hm.set 2 (n64 z2) (by simp)
  have ks : Kp (fun i => i = X) wa2 (wa2.setCell ⟨X, 2, none⟩ (n64 z2)) := kp1_set3 _ _ _
  have hzk := ka2.size
  have hp2 := (HP1.out.1.keep HP1.out.2 ka2 (fun hf => by have := (HK1.out.2.1 _ hf).1; have := HPX.out.2.1; omega)).keep (by have := HP1.out.2; omega) ks HPX.out.1
  have hp3 : Pb < (wa2.setCell ⟨X, 2, none⟩ (n64 z2)).heap.size := by have := HP1.out.2; simp; omega
  obtain ⟨wb2, hw⟩ : ∃ W, wa2.setCell ⟨X, 2, none⟩ (n64 z2) = W := ⟨_, rfl⟩
  rw [hw] at hm2 hp2 hp3
  have HS2 := Lib.hid hw
  have HM2 := Lib.hid hm2
  have HP2 := Lib.hid (And.intro hp2 hp3)
  have p1 := hp2.at_ 1 rfl
  have hn3 := num48_c hm2.rd
  rw [HE3.out] at hn3
  dsimp only at hn3
  clear hR2 ka2 hm hm2 hw ks hzk hp2 hp3 p0
  go_wp2_with (first
    | ((with_reducible show wpList _ _ _ _ _ (World.setCell wa2 _ _)); rw [HS2.out])
    | fail)
  (try rw [HS2.out])
  rw [rounds_succ]
  go_wp2_with (first
    | ((with_reducible show wpList _ _ _ _ _ (World.setCell wa2 _ _)); rw [HS2.out])
    | fail)
  clear s0 sf
  refine hn3.mono ?_
  rintro e wa3 ⟨rfl, hR3, ka3⟩
  clear hn3
  have hm := HM2.out.call hR3 ka3
  have s0 := hm.x.at_ 3 rfl
  have sf := hm.x.2 3
  have hm2 : DC w1 (wa3.setCell ⟨X, 3, none⟩ (n64 z3)) F g rv xs a3 f3 X w.heap.size [n64 fl, n64 z1, n64 z2, n64 z3, n64 0, n64 0, n64 0, n64 0, n64 0, n64 0, .slice none 0 0, .slice none 0 0] := hm.set 3 (n64 z3) (by simp)
  have ks : Kp (fun i => i = X) wa3 (wa3.setCell ⟨X, 3, none⟩ (n64 z3)) := kp1_set3 _ _ _
  have hzk := ka3.size
  have hp2 := (HP2.out.1.keep HP2.out.2 ka3 (fun hf => by have := (HK1.out.2.1 _ hf).1; have := HPX.out.2.1; omega)).keep (by have := HP2.out.2; omega) ks HPX.out.1
  have hp3 : Pb < (wa3.setCell ⟨X, 3, none⟩ (n64 z3)).heap.size := by have := HP2.out.2; simp; omega
  obtain ⟨wb3, hw⟩ : ∃ W, wa3.setCell ⟨X, 3, none⟩ (n64 z3) = W := ⟨_, rfl⟩
  rw [hw] at hm2 hp2 hp3
  have HS3 := Lib.hid hw
  have HM3 := Lib.hid hm2
  have HP3 := Lib.hid (And.intro hp2 hp3)
  have hn4 := num48_c hm2.rd
  rw [HE4.out] at hn4
  dsimp only at hn4
  clear hR3 ka3 hm hm2 hw ks hzk hp2 hp3
  go_wp2_with (first
    | ((with_reducible show wpList _ _ _ _ _ (World.setCell wa3 _ _)); rw [HS3.out])
    | fail)
  clear s0 sf
  refine hn4.mono ?_
  rintro e wa4 ⟨rfl, hR4, ka4⟩
  clear hn4
  have hm := HM3.out.call hR4 ka4
  have s0 := hm.x.at_ 4 rfl
  have sf := hm.x.2 4
  have hm2 : DC w1 (wa4.setCell ⟨X, 4, none⟩ (n64 z4)) F g rv xs a4 f4 X w.heap.size [n64 fl, n64 z1, n64 z2, n64 z3, n64 z4, n64 0, n64 0, n64 0, n64 0, n64 0, .slice none 0 0, .slice none 0 0] := hm.set 4 (n64 z4) (by simp)
  have ks : Kp (fun i => i = X) wa4 (wa4.setCell ⟨X, 4, none⟩ (n64 z4)) := kp1_set3 _ _ _
  have hzk := ka4.size
  have hp2 := (HP3.out.1.keep HP3.out.2 ka4 (fun hf => by have := (HK1.out.2.1 _ hf).1; have := HPX.out.2.1; omega)).keep (by have := HP3.out.2; omega) ks HPX.out.1
  have hp3 : Pb < (wa4.setCell ⟨X, 4, none⟩ (n64 z4)).heap.size := by have := HP3.out.2; simp; omega
  obtain ⟨wb4, hw⟩ : ∃ W, wa4.setCell ⟨X, 4, none⟩ (n64 z4) = W := ⟨_, rfl⟩
  rw [hw] at hm2 hp2 hp3
  have HS4 := Lib.hid hw
  have HM4 := Lib.hid hm2
  have HP4 := Lib.hid (And.intro hp2 hp3)
  have p2 := hp2.at_ 2 rfl
  have hn5 := num48_c hm2.rd
  rw [HE5.out] at hn5
  dsimp only at hn5
  clear hR4 ka4 hm hm2 hw ks hzk hp2 hp3 p1
  go_wp2_with (first
    | ((with_reducible show wpList _ _ _ _ _ (World.setCell wa4 _ _)); rw [HS4.out])
    | fail)
  (try rw [HS4.out])
  rw [rounds_succ]
  go_wp2_with (first
    | ((with_reducible show wpList _ _ _ _ _ (World.setCell wa4 _ _)); rw [HS4.out])
    | fail)
  clear s0 sf
  refine hn5.mono ?_
  rintro e wa5 ⟨rfl, hR5, ka5⟩
  clear hn5
  have hm := HM4.out.call hR5 ka5
  have s0 := hm.x.at_ 5 rfl
  have sf := hm.x.2 5
  have hm2 : DC w1 (wa5.setCell ⟨X, 5, none⟩ (n64 z5)) F g rv xs a5 f5 X w.heap.size [n64 fl, n64 z1, n64 z2, n64 z3, n64 z4, n64 z5, n64 0, n64 0, n64 0, n64 0, .slice none 0 0, .slice none 0 0] := hm.set 5 (n64 z5) (by simp)
  have ks : Kp (fun i => i = X) wa5 (wa5.setCell ⟨X, 5, none⟩ (n64 z5)) := kp1_set3 _ _ _
  have hzk := ka5.size
  have hp2 := (HP4.out.1.keep HP4.out.2 ka5 (fun hf => by have := (HK1.out.2.1 _ hf).1; have := HPX.out.2.1; omega)).keep (by have := HP4.out.2; omega) ks HPX.out.1
  have hp3 : Pb < (wa5.setCell ⟨X, 5, none⟩ (n64 z5)).heap.size := by have := HP4.out.2; simp; omega
  obtain ⟨wb5, hw⟩ : ∃ W, wa5.setCell ⟨X, 5, none⟩ (n64 z5) = W := ⟨_, rfl⟩
  rw [hw] at hm2 hp2 hp3
  have HS5 := Lib.hid hw
  have HM5 := Lib.hid hm2
  have HP5 := Lib.hid (And.intro hp2 hp3)
  have hn6 := num48_c hm2.rd
  rw [HE6.out] at hn6
  dsimp only at hn6
  clear hR5 ka5 hm hm2 hw ks hzk hp2 hp3
  go_wp2_with (first
    | ((with_reducible show wpList _ _ _ _ _ (World.setCell wa5 _ _)); rw [HS5.out])
    | fail)
  clear s0 sf
  refine hn6.mono ?_
  rintro e wa6 ⟨rfl, hR6, ka6⟩
  clear hn6
  have hm := HM5.out.call hR6 ka6
  have s0 := hm.x.at_ 6 rfl
  have sf := hm.x.2 6
  have hm2 : DC w1 (wa6.setCell ⟨X, 6, none⟩ (n64 z6)) F g rv xs a6 f6 X w.heap.size [n64 fl, n64 z1, n64 z2, n64 z3, n64 z4, n64 z5, n64 z6, n64 0, n64 0, n64 0, .slice none 0 0, .slice none 0 0] := hm.set 6 (n64 z6) (by simp)
  have ks : Kp (fun i => i = X) wa6 (wa6.setCell ⟨X, 6, none⟩ (n64 z6)) := kp1_set3 _ _ _
  have hzk := ka6.size
  have hp2 := (HP5.out.1.keep HP5.out.2 ka6 (fun hf => by have := (HK1.out.2.1 _ hf).1; have := HPX.out.2.1; omega)).keep (by have := HP5.out.2; omega) ks HPX.out.1
  have hp3 : Pb < (wa6.setCell ⟨X, 6, none⟩ (n64 z6)).heap.size := by have := HP5.out.2; simp; omega
  obtain ⟨wb6, hw⟩ : ∃ W, wa6.setCell ⟨X, 6, none⟩ (n64 z6) = W := ⟨_, rfl⟩
  rw [hw] at hm2 hp2 hp3
  have HS6 := Lib.hid hw
  have HM6 := Lib.hid hm2
  have HP6 := Lib.hid (And.intro hp2 hp3)
  have hn7 := num48_c hm2.rd
  rw [HE7.out] at hn7
  dsimp only at hn7
  clear hR6 ka6 hm hm2 hw ks hzk hp2 hp3 p2
  go_wp2_with (first
    | ((with_reducible show wpList _ _ _ _ _ (World.setCell wa6 _ _)); rw [HS6.out])
    | fail)
  (try rw [HS6.out])
  rw [rounds_succ]
  go_wp2_with (first
    | ((with_reducible show wpList _ _ _ _ _ (World.setCell wa6 _ _)); rw [HS6.out])
    | fail)
  clear s0 sf
  refine hn7.mono ?_
  rintro e wa7 ⟨rfl, hR7, ka7⟩
  clear hn7
  have hm := HM6.out.call hR7 ka7
  have s0 := hm.x.at_ 7 rfl
  have sf := hm.x.2 7
  have hm2 : DC w1 (wa7.setCell ⟨X, 7, none⟩ (n64 z7)) F g rv xs a7 f7 X w.heap.size [n64 fl, n64 z1, n64 z2, n64 z3, n64 z4, n64 z5, n64 z6, n64 z7, n64 0, n64 0, .slice none 0 0, .slice none 0 0] := hm.set 7 (n64 z7) (by simp)
  obtain ⟨wb7, hw⟩ : ∃ W, wa7.setCell ⟨X, 7, none⟩ (n64 z7) = W := ⟨_, rfl⟩
  rw [hw] at hm2
  have HS7 := Lib.hid hw
  have HM7 := Lib.hid hm2
  have hn8 := num48_c hm2.rd
  rw [HE8.out] at hn8
  dsimp only at hn8
  clear hR7 ka7 hm hm2 hw
  go_wp2_with (first
    | ((with_reducible show wpList _ _ _ _ _ (World.setCell wa7 _ _)); rw [HS7.out])
    | fail)
  clear s0 sf
  refine hn8.mono ?_
  rintro e wa8 ⟨rfl, hR8, ka8⟩
  clear hn8
  have hm := HM7.out.call hR8 ka8
  have s0 := hm.x.at_ 8 rfl
  have sf := hm.x.2 8
  have hm2 : DC w1 (wa8.setCell ⟨X, 8, none⟩ (n64 z8)) F g rv xs a8 f8 X w.heap.size [n64 fl, n64 z1, n64 z2, n64 z3, n64 z4, n64 z5, n64 z6, n64 z7, n64 z8, n64 0, .slice none 0 0, .slice none 0 0] := hm.set 8 (n64 z8) (by simp)
  obtain ⟨wb8, hw⟩ : ∃ W, wa8.setCell ⟨X, 8, none⟩ (n64 z8) = W := ⟨_, rfl⟩
  rw [hw] at hm2
  have HS8 := Lib.hid hw
  have HM8 := Lib.hid hm2
  have hn9 := num48_c hm2.rd
  rw [HE9.out] at hn9
  dsimp only at hn9
  clear hR8 ka8 hm hm2 hw
  go_wp2_with (first
    | ((with_reducible show wpList _ _ _ _ _ (World.setCell wa8 _ _)); rw [HS8.out])
    | fail)
  clear s0 sf
  refine hn9.mono ?_
  rintro e wa9 ⟨rfl, hR9, ka9⟩
  clear hn9
  have hm := HM8.out.call hR9 ka9
  have s0 := hm.x.at_ 9 rfl
  have sf := hm.x.2 9
  have hm2 : DC w1 (wa9.setCell ⟨X, 9, none⟩ (n64 z9)) F g rv xs a9 f9 X w.heap.size [n64 fl, n64 z1, n64 z2, n64 z3, n64 z4, n64 z5, n64 z6, n64 z7, n64 z8, n64 z9, .slice none 0 0, .slice none 0 0] := hm.set 9 (n64 z9) (by simp)
  obtain ⟨wb9, hw⟩ : ∃ W, wa9.setCell ⟨X, 9, none⟩ (n64 z9) = W := ⟨_, rfl⟩
  rw [hw] at hm2
  have HS9 := Lib.hid hw
  have HM9 := Lib.hid hm2
  have hn10 := want_c (most := 8) hm2.rd (by unfold U64; omega)
  rw [HEQ.out.2.1] at hn10
  dsimp only at hn10
  clear hR9 ka9 hm hm2 hw
  go_wp2_with (first
    | ((with_reducible show wpList _ _ _ _ _ (World.setCell wa9 _ _)); rw [HS9.out])
    | fail)
  clear s0 sf
  refine hn10.mono ?_
  rintro e wn ⟨rfl, hRn, kn⟩
  clear hn10
  have HMn := Lib.hid (HM9.out.call hRn kn)
  clear hRn kn
  go_wp2_with fail
  go_loopw [10] (fun i wr => ∃ (q : Nat) (bv : Value) (ls : List (Value × Blk)) (a : Nat) (f : Int), i = n64 q ∧ q = ls.length ∧ (f = 0 → n ≤ 8) ∧ q ≤ n ∧ OwBl wr 37 (fun i => w1.heap.size ≤ i ∧ i ≠ X) bv ls ∧ DC w1 wr F g rv xs a f X w.heap.size [n64 fl, n64 z1, n64 z2, n64 z3, n64 z4, n64 z5, n64 z6, n64 z7, n64 z8, n64 z9, bv, .slice none 0 0] ∧ decBlks xs (n - q) (ls.map Prod.snd) a f = (Bl, ab, fb)) (fun i _ => n - (intOf i).toNat)
  case atStart => exact ⟨0, .slice none 0 0, [], an, fn, rfl, rfl, HHB.out, Nat.zero_le _, OwBl.nil _ _ _, HMn.out, HEB.out⟩
  case round =>
    obtain ⟨q, bv, ls, a, f, rfl, hql, hf8, hqn, ho, hm, hd⟩ := hrel
    by_cases hlt : q < n
    · by_cases hf0 : f = 0
      · subst hf0
        have hn8 := hf8 rfl
        rw [show n - q = (n - (q + 1)) + 1 by omega, decBlks_next] at hd
        obtain ⟨x, a2, f2, ed⟩ : ∃ x y z, decBlk xs (ls.map Prod.snd) a 0 = (x, y, z) := ⟨_, _, _, rfl⟩
        rw [ed] at hd
        dsimp only at hd
        have herr := err_c hm.rd
        obtain ⟨bA, bc, rfl, hbc⟩ := ho.shape
        have HO := Lib.hid (And.intro ho (And.intro hm (And.intro hd (And.intro ed hql))))
        have hlt' : (q : Int) < (n : Int) := by omega
        clear ho hm hd ed hf8
        generalize hll : ls.length = ll at *
        have HLL := Lib.hid hll
        clear hll
        go_wp2_with fail
        refine herr.mono ?_
        rintro e wx ⟨rfl, rfl⟩
        clear herr
        go_wp2_with fail
        refine rg_begin 9 (fun i => F i ∨ (w1.heap.size ≤ i ∧ i ≠ X)) (by kernel_rfl) (fun w5 d5 => ?_)
        have hm5 := HO.out.2.1.quiet d5
        have ho5 := HO.out.1.keepN d5
        have hX5 := hm5.lt
        have hz15 := hm5.kp.size
        have hcX : ∀ W, Kp (fun i => F i ∨ (w1.heap.size ≤ i ∧ i ≠ X)) w5 W → W.cell? ⟨X, 10, none⟩ = some (.slice bA ll bc) := fun W hW => (hm5.x.keep hX5.1 hW (fun hh => by
          rcases hh with hh | hh
          · have := (hm5.fl _ hh).1; omega
          · exact hh.2 rfl)).at_ 10 rfl
        have hrb := readBlock_c (l := ls.map Prod.snd) (bv := .slice bA ll bc) hm5.rd (fun i hi => by have := (hm5.fl i hi).1; omega) (fun W kW => by
          have := (ho5.keep kW (fun i hi hf => by have := (hm5.fl i hf).1; have := hi.1; omega)).sl
          exact this) (by rw [List.length_map, HLL.out]; have := HO.out.2.2.2.2; omega) (by have := HX.out.2; omega)
        unfold RdBlkP at hrb
        rw [HO.out.2.2.2.1] at hrb
        dsimp only at hrb
        refine rg_take 0 (d := (some 77)) (v := .pointer (some ⟨X, 10, none⟩)) (by decide) rfl rfl (by kernel_rfl) (by kernel_rfl) (by kernel_rfl) (fun _ _ _ h => h) rfl (fun W => by go_simp) ?_
        conv => arg 8; simp only [Act.put, List.setIfInBounds_toArray, List.set_cons_zero, List.set_cons_succ]
        refine rg_read 1 (d := (some 78)) (v := .slice bA ll bc) (by decide) (by kernel_rfl) (by kernel_rfl) rfl rfl (by kernel_rfl) (by kernel_rfl) (by kernel_rfl) (fun _ _ _ h => h) rfl (fun W hW => by have hc := (fun W hW => hcX W hW) W hW; go_simp) ?_
        conv => arg 8; simp only [Act.put, List.setIfInBounds_toArray, List.set_cons_zero, List.set_cons_succ]
        refine rg_take 2 (d := (some 79)) (v := .pointer (some ⟨g, 0, none⟩)) (by decide) rfl rfl (by kernel_rfl) (by kernel_rfl) (by kernel_rfl) (fun _ _ _ h => h) rfl (fun W => rfl) ?_
        conv => arg 8; simp only [Act.put, List.setIfInBounds_toArray, List.set_cons_zero, List.set_cons_succ]
        refine rg_take 3 (d := (some 80)) (v := .pointer (some ⟨X, 10, none⟩)) (by decide) rfl rfl (by kernel_rfl) (by kernel_rfl) (by kernel_rfl) (fun _ _ _ h => h) rfl (fun W => by go_simp) ?_
        conv => arg 8; simp only [Act.put, List.setIfInBounds_toArray, List.set_cons_zero, List.set_cons_succ]
        refine rg_read 4 (d := (some 81)) (v := .slice bA ll bc) (by decide) (by kernel_rfl) (by kernel_rfl) rfl rfl (by kernel_rfl) (by kernel_rfl) (by kernel_rfl) (fun _ _ _ h => h) rfl (fun W hW => by have hc := (fun W hW => hcX W hW) W hW; go_simp) ?_
        conv => arg 8; simp only [Act.put, List.setIfInBounds_toArray, List.set_cons_zero, List.set_cons_succ]
        refine rg_call 5 (d := (some 82)) (by kernel_rfl) (hrb) rfl rfl (by kernel_rfl) rfl rfl ?_
        rintro e w7 ⟨u, rfl, ou, hR7, k7⟩
        refine ⟨_, rfl, k7.mono (fun _ _ h => .inl h), ?_⟩
        conv => arg 8; simp only [Act.put, List.setIfInBounds_toArray, List.set_cons_zero, List.set_cons_succ]
        obtain ⟨uA, uc, rfl, -⟩ := ou.readsB.form
        have hz7 := k7.size
        have hm7 := hm5.call hR7 k7
        have ho7 := ho5.keep k7 (fun i hi hf => by have := (hm5.fl i hf).1; have := hi.1; omega)
        have kl := (Kp.refl (fun _ => False) w7).alloc (.cells #[n64 x.ty, n64 x.nu, n64 x.fl, .slice uA x.da.length uc] 37)
        have hzl : (w7.alloc (.cells #[n64 x.ty, n64 x.nu, n64 x.fl, .slice uA x.da.length uc] 37)).heap.size = w7.heap.size + 1 := by simp
        have hlit := (OwC.lit w7 37 4 1 #[n64 x.ty, n64 x.nu, n64 x.fl, .slice uA x.da.length uc] (by simp [maxLen]) rfl).reads
        have hux := decBlk_u64 HO.out.2.2.2.1
        obtain ⟨v9, w9, r9, o9, k9⟩ := OwBl.push (t := 32) (xv := .slice (some ⟨w7.heap.size, 0, none⟩) 1 1) ((ho5.wide (G := fun i => w1.heap.size ≤ i ∧ i < w5.heap.size ∧ i ≠ X) (fun i hi hh => ⟨hh.1, hi, hh.2⟩)).keep (k7.thenN kl) (fun i hi hf => by have := (hm5.fl i hf).1; have := hi.1; omega)) (ou.keepN kl) (fun i hi hh => by have := hi.2.1; have := hh.1; omega) hlit hux (by rw [HLL.out]; have := HO.out.2.2.2.2; omega) Try.underlying32 blkInfo (by decide)
        have hz9 := k9.size
        have hm9 := (hm7.quiet kl).own k9 (fun i hi => ⟨hi.1, hi.2.2⟩)
        have hm10 := hm9.set 10 v9 (by simp)
        have s10 := hm9.x.at_ 10 rfl
        have sf10 := hm9.x.2 10
        have ks10 : Kp (fun i => i = X) w9 (w9.setCell ⟨X, 10, none⟩ v9) := kp1_set3 _ _ _
        have o10 := (o9.wide (G := fun i => w1.heap.size ≤ i ∧ i ≠ X) (fun i hi hh => by
          rcases hh with hh | hh | hh
          · exact ⟨hh.1, hh.2.2⟩
          · exact ⟨by have := hh.1; omega, by have := hh.1; omega⟩
          · exact ⟨by have := hh.1; omega, by have := hh.1; omega⟩)).keep ks10 (fun i hi e => hi.2 e)
        have hone := o9.row.reads
        refine rg_onlyW 6 (w' := w7.alloc (.cells #[n64 x.ty, n64 x.nu, n64 x.fl, .slice uA x.da.length uc] 37)) (d := (some 83)) (v := .slice (some ⟨w7.heap.size, 0, none⟩) 1 1) rfl rfl (by kernel_rfl) rfl (run_oneBlk rfl) (kl.mono (fun _ _ x => x.elim)) ?_
        conv => arg 8; simp only [Act.put, List.setIfInBounds_toArray, List.set_cons_zero, List.set_cons_succ]
        refine rg_onlyW 7 (w' := w9) (d := (some 84)) (v := v9) rfl rfl (by kernel_rfl) rfl (run_append_op r9 rfl rfl) (k9.mono (fun i _ hi => .inr ⟨hi.1, hi.2.2⟩)) ?_
        conv => arg 8; simp only [Act.put, List.setIfInBounds_toArray, List.set_cons_zero, List.set_cons_succ]
        refine rg_take 8 (d := (some 85)) (v := .pointer (some ⟨X, 10, none⟩)) (by decide) rfl rfl (by kernel_rfl) (by kernel_rfl) (by kernel_rfl) (fun _ _ _ h => h) rfl (fun W => by go_simp) ?_
        conv => arg 8; simp only [Act.put, List.setIfInBounds_toArray, List.set_cons_zero, List.set_cons_succ]
        refine rg_lastS (G := fun _ => True) (w9.setCell ⟨X, 10, none⟩ v9) (d := none) rfl rfl (by kernel_rfl) rfl (run_store_op (run_storeAt_one w9 X 10 32 v9 (by rw [s10]; rfl) sf10 (by kernel_rfl) (own_cells o9.row) (own_one o9.row)) rfl rfl) (by kernel_rfl) ?_
        conv => arg 8; simp only [Act.put, List.setIfInBounds_toArray, List.set_cons_zero, List.set_cons_succ]
        refine rg_done (by kernel_rfl) ?_
        have hlq : (ls ++ [(Value.slice uA x.da.length uc, x)]).length = q + 1 := by rw [List.length_append, HLL.out]; have := HO.out.2.2.2.2; simp; omega
        have HF := Lib.hid (And.intro o10 (And.intro hm10 (And.intro hlq (show decBlks xs (n - (q + 1)) ((ls ++ [(Value.slice uA x.da.length uc, x)]).map Prod.snd) a2 f2 = (Bl, ab, fb) by rw [List.map_append]; exact HO.out.2.2.1))))
        clear hm5 ho5 hX5 hz15 hcX hrb ou hR7 k7 hz7 hm7 ho7 kl hzl hlit o9 k9 r9 hz9 hm9 hm10 s10 sf10 ks10 o10 hone hlq d5
        go_wp2_with fail
        go_roundw
        case rel => exact ⟨q + 1, v9, _, a2, f2, by go_num, HF.out.2.2.1.symm, fun _ => hn8, by omega, HF.out.1, HF.out.2.1, HF.out.2.2.2⟩
        case measure =>
          simp [intOf]
          omega
      · rw [decBlks_stop _ _ _ _ _ hf0] at hd
        have hf0' : (f == 0) = false := by simp [hf0]
        have hlt' : (q : Int) < (n : Int) := by omega
        injection hd with hd1 hd2
        injection hd2 with hd2 hd3
        subst hd2 hd3
        obtain ⟨bA, bc, rfl, hbc⟩ := ho.shape
        have herr := err_c hm.rd
        have HM := Lib.hid (And.intro hm (And.intro ho hd1))
        clear ho hm hd1 hf8 hql
        go_wp2_with fail
        refine herr.mono ?_
        rintro e wx ⟨rfl, rfl⟩
        clear herr
        have hby := rdBytes_c (most := 512) HM.out.1.rd (by omega) (fun i hi => by have h1 := (HM.out.1.fl i hi).1; have h2 := HM.out.1.kp.size; omega)
        rw [HEQ.out.2.2.1] at hby
        (try dsimp only at hby)
        go_wp2_with fail
        refine hby.mono ?_
        rintro e wp ⟨u, rfl, ou, hRp, kp⟩
        clear hby
        obtain ⟨uA, uc, rfl, -⟩ := ou.readsB.form
        have hmp := HM.out.1.call hRp kp
        have s11 := hmp.x.at_ 11 rfl
        have sf11 := hmp.x.2 11
        have hm12 := hmp.set 11 (.slice uA pl.length uc) (by simp)
        have hXw := HM.out.1.lt
        have hzw := HM.out.1.kp.size
        have hzp := kp.size
        have ho12 := (HM.out.2.1.keep kp (fun i hi hf => by have := (HM.out.1.fl i hf).1; have := hi.1; omega))
        have kX : Kp (fun i => i = X) wp (wp.setCell ⟨X, 11, none⟩ (.slice uA pl.length uc)) := kp1_set3 _ _ _
        have ho13 := ho12.keep kX (fun i hi e => hi.2 e)
        have ou13 := ou.keep kX (fun i hi e => by have := hi.1; omega)
        obtain ⟨wz, hwz⟩ : ∃ W, wp.setCell ⟨X, 11, none⟩ (.slice uA pl.length uc) = W := ⟨_, rfl⟩
        rw [hwz] at hm12 ho13 ou13
        have hap : ∀ p ∈ ls, ∀ k, p.1.ownBlock = some k → (Value.slice uA pl.length uc).ownBlock ≠ some k := fun p hp k hk hk2 => by
          have h1 := (HM.out.2.1.each p hp).lt k hk
          have h2 := (ou.fit k hk2).1
          omega
        have hen := rdEnd_c hm12.rd
        rw [HEQ.out.2.2.2] at hen
        (try dsimp only at hen)
        have HZ := Lib.hid (And.intro hwz (And.intro hm12 (And.intro ho13 (And.intro ou13 (And.intro hap (show w1.heap.size ≤ wr.heap.size ∧ X < wr.heap.size by omega))))))
        clear hRp kp hmp hm12 hXw hzw hzp ho12 kX ho13 ou ou13 hwz hap
        go_wp2_with (first
          | ((with_reducible show wpList _ _ _ _ _ (World.setCell wp _ _)); rw [HZ.out.1])
          | fail)
        refine hen.mono ?_
        rintro e we ⟨rfl, hRe, ke⟩
        clear hen s11 sf11
        have hme := HZ.out.2.1.call hRe ke
        have hoe := HZ.out.2.2.1.keep ke (fun i hi hf => by have := (HZ.out.2.1.fl i hf).1; have := hi.1; omega)
        have oue := HZ.out.2.2.2.1.keep ke (fun i hi hf => by have := (HZ.out.2.1.fl i hf).1; have := hi.1; have := HZ.out.2.2.2.2.2.1; omega)
        have kwe : KpN w we := (HWR.out.2.1.thenN HK1.out.1).fresh hme.kp (fun i hi => by have := HK1.out.2.2 i hi; have := HWR.out.2.2.2; omega)
        have hle : w.heap.size < w1.heap.size := hme.lt.2.1
        have hE0 := HRES.out.1
        rw [HX.out.2, if_neg H1024.out] at hE0
        have hB0 := HRES.out.2.1
        have hBe := HM.out.2.2
        by_cases hE : E = 0
        · rw [if_pos (by rw [hE0]; exact hE)] at hB0
          obtain ⟨wf, hst, hXf, kf, hzf⟩ := box_store hme.r 34 #[n64 fl, n64 z1, n64 z2, n64 z3, n64 z4, n64 z5, n64 z6, n64 z7, n64 z8, n64 z9, .slice bA ls.length bc, .slice uA pl.length uc] rfl (by kernel_rfl) (by kernel_rfl)
          have hld := run_loadAt_rowat (P := Try.prog) hme.x.1 Try.underlying34 rfl (by kernel_rfl)
          have hzwe := kwe.size
          have hof := ((hoe.keep kf (fun i hi e => by have := hi.1; omega)).wide (G := Iv w.heap.size wf.heap.size) (fun i hi hh => ⟨by have := hh.1; omega, hi⟩))
          have ouf := ((oue.keep kf (fun i hi e => by have := hi.1; have := HZ.out.2.2.2.2.2.1; omega)).wide (G := Iv w.heap.size wf.heap.size) (fun i hi hh => ⟨by have := hh.1; have := HZ.out.2.2.2.2.2.1; omega, hi⟩))
          have hokD := HRES.out.2.2
          rw [hB0] at hokD
          have hbd : OwBd wf 37 (Iv w.heap.size wf.heap.size) (.slice bA ls.length bc) (.slice uA pl.length uc) ⟨fl, z1, z2, z3, z4, z5, z6, z7, z8, z9, Bl, pl⟩ ls := ⟨hokD, hof, hBe, ouf, HZ.out.2.2.2.2.1⟩
          have HF := Lib.hid (And.intro hE0 (And.intro hB0 (And.intro hst (And.intro hld (And.intro hXf (And.intro hbd (kwe.fresh kf (fun i e => by omega))))))))
          subst hE
          clear hRe ke hme hoe oue kwe hE0 hB0 hst hXf kf hzf hld hof ouf hokD hbd hBe hzwe
          go_wp2_with (first
            | ((with_reducible show wpList _ _ _ (Oper.mk _ (Op.load 34 _) _ _ _ _ :: _) _ _); refine wpl_val rfl (run_load_opv HF.out.2.2.2.1 rfl) ?_)
            | ((with_reducible show wpList _ _ _ (Oper.mk _ (Op.store 34 _ _) _ _ _ _ :: _) _ _); refine wpl_skip rfl (run_store_op HF.out.2.2.1 rfl rfl) ?_)
            | fail)
          (try simp only [Exit.inBlock, Exit.then])
          refine bodyPost_ret (results_cell_tmp_at rfl _ _ rfl HF.out.2.2.2.2.1.1 Try.underlying34 rfl (by kernel_rfl)) rfl ?_
          unfold DecQ
          exact ⟨_, _, _, by rw [HF.out.1, HF.out.2.1]; rfl, by rw [HF.out.2.1]; exact HF.out.2.2.2.2.2.1, HF.out.2.2.2.2.2.2⟩
        · rw [if_neg (by rw [hE0]; exact hE)] at hB0
          obtain ⟨wf, hst, hXf, kf, hzf⟩ := box_store hme.r 34 zeros12 rfl (by kernel_rfl) (by kernel_rfl)
          have HF := Lib.hid (And.intro hE0 (And.intro hB0 (And.intro hst (And.intro hXf (kwe.fresh kf (fun i e => by omega))))))
          have hE' : (E == 0) = false := by simp [hE]
          have hE'' : (E != 0) = true := by simp [hE]
          clear hRe ke hme hoe oue kwe hE0 hB0 hst hXf kf hzf hBe hE
          go_wp2_with (first
            | ((with_reducible show wpList _ _ _ (Oper.mk _ (Op.store 34 _ _) _ _ _ _ :: _) _ _); refine wpl_skip rfl (run_store_op HF.out.2.2.1 rfl rfl) ?_)
            | fail)
          (try simp only [Exit.inBlock, Exit.then])
          refine bodyPost_ret (results_cell_tmp_at rfl _ _ rfl HF.out.2.2.2.1.1 Try.underlying34 rfl (by kernel_rfl)) rfl ?_
          unfold DecQ
          exact ⟨.slice none 0 0, .slice none 0 0, [], by rw [HF.out.1, HF.out.2.1]; rfl, by rw [HF.out.2.1]; exact OwBd.none _ _ _, HF.out.2.2.2.2⟩
    · have hqn2 : q = n := by omega
      subst hqn2
      rw [Nat.sub_self] at hd
      have hd : (ls.map Prod.snd, a, f) = (Bl, ab, fb) := hd
      injection hd with hd1 hd2
      injection hd2 with hd2 hd3
      subst hd2 hd3
      obtain ⟨bA, bc, rfl, hbc⟩ := ho.shape
      have HM := Lib.hid (And.intro hm (And.intro ho hd1))
      clear ho hm hd1 hf8 hql
      have hby := rdBytes_c (most := 512) HM.out.1.rd (by omega) (fun i hi => by have h1 := (HM.out.1.fl i hi).1; have h2 := HM.out.1.kp.size; omega)
      rw [HEQ.out.2.2.1] at hby
      (try dsimp only at hby)
      go_wp2_with fail
      refine hby.mono ?_
      rintro e wp ⟨u, rfl, ou, hRp, kp⟩
      clear hby
      obtain ⟨uA, uc, rfl, -⟩ := ou.readsB.form
      have hmp := HM.out.1.call hRp kp
      have s11 := hmp.x.at_ 11 rfl
      have sf11 := hmp.x.2 11
      have hm12 := hmp.set 11 (.slice uA pl.length uc) (by simp)
      have hXw := HM.out.1.lt
      have hzw := HM.out.1.kp.size
      have hzp := kp.size
      have ho12 := (HM.out.2.1.keep kp (fun i hi hf => by have := (HM.out.1.fl i hf).1; have := hi.1; omega))
      have kX : Kp (fun i => i = X) wp (wp.setCell ⟨X, 11, none⟩ (.slice uA pl.length uc)) := kp1_set3 _ _ _
      have ho13 := ho12.keep kX (fun i hi e => hi.2 e)
      have ou13 := ou.keep kX (fun i hi e => by have := hi.1; omega)
      obtain ⟨wz, hwz⟩ : ∃ W, wp.setCell ⟨X, 11, none⟩ (.slice uA pl.length uc) = W := ⟨_, rfl⟩
      rw [hwz] at hm12 ho13 ou13
      have hap : ∀ p ∈ ls, ∀ k, p.1.ownBlock = some k → (Value.slice uA pl.length uc).ownBlock ≠ some k := fun p hp k hk hk2 => by
        have h1 := (HM.out.2.1.each p hp).lt k hk
        have h2 := (ou.fit k hk2).1
        omega
      have hen := rdEnd_c hm12.rd
      rw [HEQ.out.2.2.2] at hen
      (try dsimp only at hen)
      have HZ := Lib.hid (And.intro hwz (And.intro hm12 (And.intro ho13 (And.intro ou13 (And.intro hap (show w1.heap.size ≤ wr.heap.size ∧ X < wr.heap.size by omega))))))
      clear hRp kp hmp hm12 hXw hzw hzp ho12 kX ho13 ou ou13 hwz hap
      go_wp2_with (first
        | ((with_reducible show wpList _ _ _ _ _ (World.setCell wp _ _)); rw [HZ.out.1])
        | fail)
      refine hen.mono ?_
      rintro e we ⟨rfl, hRe, ke⟩
      clear hen s11 sf11
      have hme := HZ.out.2.1.call hRe ke
      have hoe := HZ.out.2.2.1.keep ke (fun i hi hf => by have := (HZ.out.2.1.fl i hf).1; have := hi.1; omega)
      have oue := HZ.out.2.2.2.1.keep ke (fun i hi hf => by have := (HZ.out.2.1.fl i hf).1; have := hi.1; have := HZ.out.2.2.2.2.2.1; omega)
      have kwe : KpN w we := (HWR.out.2.1.thenN HK1.out.1).fresh hme.kp (fun i hi => by have := HK1.out.2.2 i hi; have := HWR.out.2.2.2; omega)
      have hle : w.heap.size < w1.heap.size := hme.lt.2.1
      have hE0 := HRES.out.1
      rw [HX.out.2, if_neg H1024.out] at hE0
      have hB0 := HRES.out.2.1
      have hBe := HM.out.2.2
      by_cases hE : E = 0
      · rw [if_pos (by rw [hE0]; exact hE)] at hB0
        obtain ⟨wf, hst, hXf, kf, hzf⟩ := box_store hme.r 34 #[n64 fl, n64 z1, n64 z2, n64 z3, n64 z4, n64 z5, n64 z6, n64 z7, n64 z8, n64 z9, .slice bA ls.length bc, .slice uA pl.length uc] rfl (by kernel_rfl) (by kernel_rfl)
        have hld := run_loadAt_rowat (P := Try.prog) hme.x.1 Try.underlying34 rfl (by kernel_rfl)
        have hzwe := kwe.size
        have hof := ((hoe.keep kf (fun i hi e => by have := hi.1; omega)).wide (G := Iv w.heap.size wf.heap.size) (fun i hi hh => ⟨by have := hh.1; omega, hi⟩))
        have ouf := ((oue.keep kf (fun i hi e => by have := hi.1; have := HZ.out.2.2.2.2.2.1; omega)).wide (G := Iv w.heap.size wf.heap.size) (fun i hi hh => ⟨by have := hh.1; have := HZ.out.2.2.2.2.2.1; omega, hi⟩))
        have hokD := HRES.out.2.2
        rw [hB0] at hokD
        have hbd : OwBd wf 37 (Iv w.heap.size wf.heap.size) (.slice bA ls.length bc) (.slice uA pl.length uc) ⟨fl, z1, z2, z3, z4, z5, z6, z7, z8, z9, Bl, pl⟩ ls := ⟨hokD, hof, hBe, ouf, HZ.out.2.2.2.2.1⟩
        have HF := Lib.hid (And.intro hE0 (And.intro hB0 (And.intro hst (And.intro hld (And.intro hXf (And.intro hbd (kwe.fresh kf (fun i e => by omega))))))))
        subst hE
        clear hRe ke hme hoe oue kwe hE0 hB0 hst hXf kf hzf hld hof ouf hokD hbd hBe hzwe
        go_wp2_with (first
          | ((with_reducible show wpList _ _ _ (Oper.mk _ (Op.load 34 _) _ _ _ _ :: _) _ _); refine wpl_val rfl (run_load_opv HF.out.2.2.2.1 rfl) ?_)
          | ((with_reducible show wpList _ _ _ (Oper.mk _ (Op.store 34 _ _) _ _ _ _ :: _) _ _); refine wpl_skip rfl (run_store_op HF.out.2.2.1 rfl rfl) ?_)
          | fail)
        (try simp only [Exit.inBlock, Exit.then])
        refine bodyPost_ret (results_cell_tmp_at rfl _ _ rfl HF.out.2.2.2.2.1.1 Try.underlying34 rfl (by kernel_rfl)) rfl ?_
        unfold DecQ
        exact ⟨_, _, _, by rw [HF.out.1, HF.out.2.1]; rfl, by rw [HF.out.2.1]; exact HF.out.2.2.2.2.2.1, HF.out.2.2.2.2.2.2⟩
      · rw [if_neg (by rw [hE0]; exact hE)] at hB0
        obtain ⟨wf, hst, hXf, kf, hzf⟩ := box_store hme.r 34 zeros12 rfl (by kernel_rfl) (by kernel_rfl)
        have HF := Lib.hid (And.intro hE0 (And.intro hB0 (And.intro hst (And.intro hXf (kwe.fresh kf (fun i e => by omega))))))
        have hE' : (E == 0) = false := by simp [hE]
        have hE'' : (E != 0) = true := by simp [hE]
        clear hRe ke hme hoe oue kwe hE0 hB0 hst hXf kf hzf hBe hE
        go_wp2_with (first
          | ((with_reducible show wpList _ _ _ (Oper.mk _ (Op.store 34 _ _) _ _ _ _ :: _) _ _); refine wpl_skip rfl (run_store_op HF.out.2.2.1 rfl rfl) ?_)
          | fail)
        (try simp only [Exit.inBlock, Exit.then])
        refine bodyPost_ret (results_cell_tmp_at rfl _ _ rfl HF.out.2.2.2.1.1 Try.underlying34 rfl (by kernel_rfl)) rfl ?_
        unfold DecQ
        exact ⟨.slice none 0 0, .slice none 0 0, [], by rw [HF.out.1, HF.out.2.1]; rfl, by rw [HF.out.2.1]; exact OwBd.none _ _ _, HF.out.2.2.2.2⟩
end Go.Proofs.Yteokkpmndfekoaa
