/- DiskApart: what the call does. -/
import Derived.Test.YthkbgbbejgpeaaaJN
namespace Go.Proofs.Ythkbgbbejgpeaaa
open Go Go.RowKit
set_option maxRecDepth 100000

theorem ptrInfo : (Try.prog.info? 22).map (fun i => (i.zero, i.size, i.bytes)) = some (some (.pointer none), 1, 8) := by kernel_rfl
/-- four disks, and the row of their pointers -/
structure Four (w0 w : World) (lb cap n : Nat) (G : Nat → Nat) (F : Nat → Nat → Prop) (K : Nat → Nat) (D : Nat → Dk) (B : Nat) : Prop where
  ds : Disks w0 w 4 G F K D
  row : OwC w 22 1 (fun b => b = lb) (.slice (some ⟨lb, 0, none⟩) 4 cap) 4 ((List.range 4).map fun j => ptrD (G j))
  nlb : ∀ j, j < 4 → ¬ F j lb
  kb : ∀ j, j < 4 → K j ≤ B
  dn : ∀ j, j < 4 → (D j).n = n
  rlt : w0.heap.size ≤ lb ∧ lb < w.heap.size
theorem Four.keep {w0 w w' : World} {lb cap n B : Nat} {G : Nat → Nat} {F : Nat → Nat → Prop} {K : Nat → Nat} {D : Nat → Dk} (h : Four w0 w lb cap n G F K D B) (k : KpN w w') : Four w0 w' lb cap n G F K D B :=
  ⟨h.ds.keep k, h.row.keepN k, h.nlb, h.kb, h.dn, h.rlt.1, by have := h.rlt.2; have := k.size; omega⟩
theorem Four.step {w0 w w' : World} {lb cap n B : Nat} {G : Nat → Nat} {F : Nat → Nat → Prop} {K : Nat → Nat} {D : Nat → Dk} (h : Four w0 w lb cap n G F K D B) (j : Nat) (hj : j < 4) {F' : Nat → Prop} {k' : Nat} {d' : Dk} (hk' : k' ≤ K j + 1) (hx : DiskX w' F' (G j) k' d') (hg : Gr w w' (F j) F') (kp : Kp (F j) w w') (hn : d'.n = n) :
    Four w0 w' lb cap n G (upd F j F') (upd K j k') (upd D j d') (B + 1) := by
  have hz := kp.size
  refine ⟨h.ds.step j hj hx hg kp, h.row.keep kp (fun b hb hF => h.nlb j hj (by rw [← hb]; exact hF)), fun i hi => ?_, fun i hi => ?_, fun i hi => ?_, h.rlt.1, by have := h.rlt.2; omega⟩
  · by_cases hij : i = j
    · subst hij
      rw [upd_same]
      exact hg.avoid h.rlt.2 (h.nlb i hj)
    · rw [upd_ne _ _ hij]
      exact h.nlb i hi
  · by_cases hij : i = j
    · subst hij
      rw [upd_same]
      have := h.kb i hi
      omega
    · rw [upd_ne _ _ hij]
      have := h.kb i hi
      omega
  · by_cases hij : i = j
    · subst hij
      rw [upd_same]
      exact hn
    · rw [upd_ne _ _ hij]
      exact h.dn i hi
theorem Four.cell {w0 w : World} {lb cap n B : Nat} {G : Nat → Nat} {F : Nat → Nat → Prop} {K : Nat → Nat} {D : Nat → Dk} (h : Four w0 w lb cap n G F K D B) (j : Nat) (hj : j < 4) : w.cell? ⟨lb, j, none⟩ = some (ptrD (G j)) := by
  rw [h.row.cellAt j hj]
  simp [hj]
/-- one step on one of them -/
theorem Four.run {w0 w : World} {lb cap n B : Nat} {G : Nat → Nat} {F : Nat → Nat → Prop} {K : Nat → Nat} {D : Nat → Dk} (h : Four w0 w lb cap n G F K D B) (hB : B ≤ 100000000) {ad : Addr} {N c : Nat} {l : List Stp} (hl : RdSteps w0 (.slice (some ad) N c) l) (hls : stepsSize l ≤ 2000000) (j : Nat) (hj : j < 4) (i : Nat) (hi : i < l.length) (m : Nat) (hm : 1 ≤ m) :
    Calls Try.prog 34 #[ptrD (G j), .slice (some (ad.add (i * 3))) 1 m, .int .i64 1] w fun e w' => (∃ r : Nat, e = .returned (.int .i64 (r : Int))) ∧ (∃ F' K' D', Four w0 w' lb cap n G F' K' D' (B + 1) ∧ D' j = (stepD (D j) l[i] 0).2 ∧ ∀ q, q ≠ j → D' q = D q) ∧ Kp (F j) w w' := by
  have hs := SlAt.sub hl i hi m hm
  have hsz := stepsSize_mem l l[i] (List.getElem_mem hi)
  refine (run_c (most := 1) (h.ds.at_ j hj) hs (by simp only [stepsSize, List.map_cons, List.map_nil, List.sum_cons, List.sum_nil]; omega) h.ds.kp (fun x hx => (h.ds.ge j hj x hx).1) (by have := h.kb j hj; omega)).mono ?_
  rintro e w' ⟨rfl, F', k', hk', hx, hg, kp⟩
  have hr1 := run_one (D j) l[i]
  rw [hr1] at hx
  refine ⟨⟨_, rfl⟩, ⟨upd F j F', upd K j k', upd D j (stepD (D j) l[i] 0).2, h.step j hj (by simpa using hk') hx hg kp (by rw [step_n]; exact h.dn j hj), upd_same _ _ _, fun q hq => upd_ne _ _ hq⟩, kp⟩

def Ap1 (w : World) (n : Nat) (lv i : Value) (wr : World) : Prop := ∃ (q : Nat) (G : Nat → Nat) (F : Nat → Nat → Prop), q ≤ 4 ∧ i = .int .i64 q ∧ Disks w wr q G F (fun _ => 0) (fun _ => newD n) ∧
  OwC wr 22 1 (fun b => w.heap.size ≤ b ∧ ∀ j, j < q → ¬ F j b) lv q ((List.range q).map fun j => ptrD (G j))
def Ap2 (w : World) (lb cap n : Nat) (G : Nat → Nat) (l m : List Stp) (i : Value) (wr : World) : Prop := ∃ (q : Nat) (F : Nat → Nat → Prop) (K : Nat → Nat) (D : Nat → Dk) (B : Nat), (q ≤ l.length ∨ q ≤ m.length) ∧ i = .int .i64 q ∧ Four w wr lb cap n G F K D B ∧ B ≤ 2 * q ∧
  D 0 = appD (newD n) (l.take q) ∧ D 1 = appD (newD n) (m.take q) ∧ D 2 = newD n ∧ D 3 = newD n
def Ap3 (w : World) (lb cap n : Nat) (G : Nat → Nat) (l m : List Stp) (i : Value) (wr : World) : Prop := ∃ (q : Nat) (F : Nat → Nat → Prop) (K : Nat → Nat) (D : Nat → Dk) (B : Nat), q ≤ l.length ∧ i = .int .i64 q ∧ Four w wr lb cap n G F K D B ∧ B ≤ 2 * (l.length + m.length) + q ∧
  D 0 = appD (newD n) l ∧ D 1 = appD (newD n) m ∧ D 2 = appD (newD n) (l.take q) ∧ D 3 = newD n
def Ap4 (w : World) (lb cap n : Nat) (G : Nat → Nat) (l m : List Stp) (i : Value) (wr : World) : Prop := ∃ (q : Nat) (F : Nat → Nat → Prop) (K : Nat → Nat) (D : Nat → Dk) (B : Nat), q ≤ m.length ∧ i = .int .i64 q ∧ Four w wr lb cap n G F K D B ∧ B ≤ 3 * (l.length + m.length) + q ∧
  D 0 = appD (newD n) l ∧ D 1 = appD (newD n) m ∧ D 2 = appD (newD n) l ∧ D 3 = appD (newD n) (m.take q)
theorem upd_const {α : Type} (c : α) (q : Nat) : upd (fun _ => c) q c = fun _ => c := by
  funext j
  by_cases h : j = q
  · subst h; exact upd_same _ _ _
  · exact upd_ne _ _ h
set_option maxHeartbeats 6400000 in
theorem dapart_walk {w : World} {sectors : Int} {va vb : Value} {l m : List Stp} (hs : I64 sectors) (ha : RdSteps w va l) (hb : RdSteps w vb m) (hla : stepsSize l ≤ 2000000) (hlb : stepsSize m ≤ 2000000) :
    Calls Try.prog 7 #[.int .i64 sectors, va, vb] w fun e w' => e = .returned (.bool true) ∧ KpN w w' := by
  obtain ⟨Aa, ac, rfl, acap⟩ := SlAt.form ha
  obtain ⟨Ab, bc, rfl, bcap⟩ := SlAt.form hb
  obtain ⟨n, hn, hn1, hn2⟩ := span_nat (n := sectors) (lo := 1) (hi := 65536) (by omega) (by omega)
  have hll := stepsSize_len l
  have hlm := stepsSize_len m
  obtain ⟨LA, hLA⟩ : ∃ L, l.length = L := ⟨_, rfl⟩
  obtain ⟨LB, hLB⟩ : ∃ L, m.length = L := ⟨_, rfl⟩
  rw [hLA] at ha hll acap ⊢
  rw [hLB] at hb hlm bcap ⊢
  have aRD0 := Lib.hid ha
  have bRD0 := Lib.hid hb
  have HN := Lib.hid hn
  have aL := Lib.hid hLA
  have bL := Lib.hid hLB
  have asz := hla
  have bsz := hlb
  clear ha hb hn hLA hLB
  go_enter Try.func7, Try.ntmps7
  go_wp2_with fail
  refine (span_c hs (by omega) (by omega) (by omega)).mono ?_
  rintro e w0 ⟨rfl, rfl⟩
  rw [HN.out]
  go_wp2_with fail
  go_loopw [8, 9] (fun lv i wr => Ap1 w n lv i wr) (fun _ i _ => 4 - (intOf i).toNat)
  case atStart => exact ⟨0, fun _ => 0, fun _ _ => False, by omega, rfl, ⟨fun j hj => absurd hj (by omega), fun i j hi => absurd hi (by omega), fun j hj => absurd hj (by omega), Kp.refl _ _⟩, OwC.nil _ _ _ _⟩
  case round =>
    obtain ⟨q, G, F, hq, rfl, hds, hrow⟩ := hrel
    by_cases hlt : q < 4
    · have HDS := Lib.hid hds
      have HRW := Lib.hid hrow
      clear hds hrow
      go_wp2_with fail
      refine (new_x (n := n) (by omega) (by omega)).mono ?_
      rintro e w1 ⟨g, rfl, hd1, k1⟩
      have hds1 := HDS.out.snoc k1 hd1
      rw [upd_const, upd_const] at hds1
      have hrow1 : OwC w1 22 1 (fun b => w.heap.size ≤ b ∧ (∀ j, j < q + 1 → ¬ upd F q (Iv wr.heap.size w1.heap.size) j b)) _ q ((List.range q).map fun j => ptrD (G j)) := ⟨(HRW.out.keepN k1).own, fun b hb => ⟨(HRW.out.fit b hb).1, fun j hj hf => by
        have hbl := HRW.out.lt b hb
        by_cases hjq : j = q
        · subst hjq
          rw [upd_same] at hf
          have := hf.1; omega
        · rw [upd_ne _ _ hjq] at hf
          exact (HRW.out.fit b hb).2 j (by omega) hf⟩⟩
      have kl : KpN w1 (w1.alloc (.cells #[ptrD g] 22)) := (Kp.refl _ _).alloc _
      have olit := (OwC.lit w1 22 1 1 #[ptrD g] (by simp [maxLen]) rfl).reads
      obtain ⟨v', w2, r2, o2, k2, hat⟩ := run_app (P := Try.prog) (t := 48) (ty := 48) (w1.alloc (.cells #[ptrD g] 22)) Try.underlying48 ptrInfo rfl (by omega) (hrow1.keepN kl) olit (by intro u hu; simp at hu; subst hu; rfl) (by omega) (by omega)
      have hz1 := kl.size
      have hds2 : Disks w w2 (q + 1) (upd G q g) (upd F q (Iv wr.heap.size w1.heap.size)) (fun _ => 0) (fun _ => newD n) :=
        ⟨fun j hj => (((hds1.keep kl).at_ j hj).keep k2 (fun x hx e => (hrow1.fit x e).2 j hj hx)), hds1.dis, fun j hj x hx => ⟨(hds1.ge j hj x hx).1, by have := (hds1.ge j hj x hx).2; have := k2.size; omega⟩, ((hds1.keep kl).kp.fresh k2 (fun x e => (hrow1.fit x e).1))⟩
      have hrow2 : OwC w2 22 1 (fun b => w.heap.size ≤ b ∧ ∀ j, j < q + 1 → ¬ upd F q (Iv wr.heap.size w1.heap.size) j b) v' (q + 1) ((List.range (q + 1)).map fun j => ptrD (upd G q g j)) := by
        have e : ((List.range (q + 1)).map fun j => ptrD (upd G q g j)) = ((List.range q).map fun j => ptrD (G j)) ++ [ptrD g] := by
          rw [List.range_succ, List.map_append]
          congr 1
          · apply List.map_congr_left
            intro j hj
            rw [upd_ne _ _ (by have : j < q := by simpa using hj
                               omega)]
          · simp [upd_same]
        rw [e]
        exact o2.wide (fun b _ hb => by
          rcases hb with hb | hb
          · exact hb
          · refine ⟨by have := hb.1; have := hds1.kp.size; omega, fun j hj hf => ?_⟩
            have := (hds1.ge j hj b hf).2; have := hb.1; omega)
      have HH := Lib.hid (And.intro hds2 hrow2)
      clear hds1 hrow1 hds2 hrow2 olit hat
      go_wp2_with (refine app_op r2 rfl rfl ?_)
      go_roundw
      case rel => exact ⟨q + 1, _, _, by omega, by go_num, HH.out.1, HH.out.2⟩
      case measure => exact meas_up hlt
    · obtain rfl : q = 4 := by omega
      rw [show ((4 : Nat) : Int) = (4 : Int) from rfl]
      obtain ⟨lb, cap, rfl, hlbf, -⟩ := hrow.form (by omega)
      have h4 : Four w wr lb cap n G F (fun _ => 0) (fun _ => newD n) 0 := ⟨hds, hrow.only, hlbf.2, fun _ _ => Nat.le_refl _, fun _ _ => rfl, hlbf.1, hrow.lt lb rfl⟩
      have H4 := Lib.hid h4
      clear hds hrow h4
      go_wp2_with fail
      go_loopw [12] (fun i wr => Ap2 w lb cap n G l m i wr) (fun i _ => LA + LB - (intOf i).toNat)
      case atStart => exact ⟨0, _, _, _, 0, .inl (Nat.zero_le _), rfl, H4.out, Nat.le_refl _, rfl, rfl, rfl, rfl⟩
      case round =>
        clear H4
        obtain ⟨q, F, K, D, B, hq, rfl, hf, hB, e0, e1, e2, e3⟩ := hrel
        rw [aL.out, bL.out] at hq
        have HE := Lib.hid (And.intro e0 (And.intro e1 (And.intro e2 e3)))
        clear e0 e1 e2 e3
        by_cases hlta : q < LA
        · obtain ⟨aad, rfl⟩ : ∃ aad, Aa = some aad := by
            obtain ⟨ad, cs, h, _⟩ := aRD0.out.row q (by rw [aL.out]; exact hlta)
            exact ⟨ad, h⟩
          have aRD := aRD0
          have hta : l.take (q + 1) = l.take q ++ [l[q]'(by rw [aL.out]; exact hlta)] := List.take_succ_eq_append_getElem _
          have HTA := Lib.hid hta
          clear hta
          go_wp2_with fail
          refine rg_begin 9 (F 0) (by kernel_rfl) (fun w5 d5 => ?_)
          have hf5 := hf.keep d5
          have hcl5 := hf5.cell 0 (by omega)
          have hw1 : IntKind.i64.wrap ((q : Int) + 1) = (q : Int) + 1 := IntWalk.i64_in _ (by omega)
          have hs1 : (q + 1) - q = 1 := by omega
          have hsa : 0 ≤ (q : Int) + 1 := by omega
          have hsb : (q : Int) + 1 ≤ (ac : Int) := by omega
          have hsd : (0 ≤ (q : Int) + 1 ∧ (q : Int) + 1 ≤ (ac : Int)) = True := eq_true ⟨hsa, hsb⟩
          have hsc : ¬ ac = q := by omega
          have hrun := hf5.run (by omega) aRD.out asz 0 (by omega) q (by rw [aL.out]; exact hlta) (ac - q) (by have := acap; omega)
          refine rg_take 0 (d := (some 57)) (v := .slice (some ⟨lb, 0, none⟩) 4 cap) (by decide) rfl rfl (by kernel_rfl) (by kernel_rfl) (by kernel_rfl) (fun _ _ _ h => h) rfl (fun W => rfl) ?_
          conv => arg 8; simp only [Act.put, List.setIfInBounds_toArray, List.set_cons_zero, List.set_cons_succ]
          refine rg_take 1 (d := (some 58)) (v := .pointer (some ⟨lb, 0, none⟩)) (by decide) rfl rfl (by kernel_rfl) (by kernel_rfl) (by kernel_rfl) (fun _ _ _ h => h) rfl (fun W => by go_simp) ?_
          conv => arg 8; simp only [Act.put, List.setIfInBounds_toArray, List.set_cons_zero, List.set_cons_succ]
          refine rg_read 2 (d := (some 59)) (v := ptrD (G 0)) (by decide) (by kernel_rfl) (by kernel_rfl) rfl rfl (by kernel_rfl) (by kernel_rfl) (by kernel_rfl) (fun _ _ _ h => h) rfl (fun W hW => by have hc := (hW.cell (p := ⟨lb, 0, none⟩) (hf5.rlt.2) (fun hh => hf.nlb 0 (by omega) hh)).trans (hcl5); go_simp) ?_
          conv => arg 8; simp only [Act.put, List.setIfInBounds_toArray, List.set_cons_zero, List.set_cons_succ]
          refine rg_take 3 (d := (some 60)) (v := .slice (some aad) LA ac) (by decide) rfl rfl (by kernel_rfl) (by kernel_rfl) (by kernel_rfl) (fun _ _ _ h => h) rfl (fun W => rfl) ?_
          conv => arg 8; simp only [Act.put, List.setIfInBounds_toArray, List.set_cons_zero, List.set_cons_succ]
          refine rg_take 4 (d := (some 61)) (v := .int .i64 q) (by decide) rfl rfl (by kernel_rfl) (by kernel_rfl) (by kernel_rfl) (fun _ _ _ h => h) rfl (fun W => rfl) ?_
          conv => arg 8; simp only [Act.put, List.setIfInBounds_toArray, List.set_cons_zero, List.set_cons_succ]
          refine rg_take 5 (d := (some 62)) (v := .int .i64 q) (by decide) rfl rfl (by kernel_rfl) (by kernel_rfl) (by kernel_rfl) (fun _ _ _ h => h) rfl (fun W => rfl) ?_
          conv => arg 8; simp only [Act.put, List.setIfInBounds_toArray, List.set_cons_zero, List.set_cons_succ]
          refine rg_take 6 (d := (some 63)) (v := .int .i64 ((q : Int) + 1)) (by decide) rfl rfl (by kernel_rfl) (by kernel_rfl) (by kernel_rfl) (fun _ _ _ h => h) rfl (fun W => by go_simp) ?_
          conv => arg 8; simp only [Act.put, List.setIfInBounds_toArray, List.set_cons_zero, List.set_cons_succ]
          refine rg_take 7 (d := (some 64)) (v := .slice (some (aad.add (q * 3))) 1 (ac - q)) (by decide) rfl rfl (by kernel_rfl) (by kernel_rfl) (by kernel_rfl) (fun _ _ _ h => h) rfl (fun W => by go_simp) ?_
          conv => arg 8; simp only [Act.put, List.setIfInBounds_toArray, List.set_cons_zero, List.set_cons_succ]
          refine rg_call 8 (d := (some 65)) (by kernel_rfl) (hrun) rfl rfl (by kernel_rfl) rfl rfl ?_
          rintro e w6 ⟨⟨r6, rfl⟩, ⟨F6, K6, D6, hf6, hj6, hq6⟩, kp6⟩
          refine ⟨_, rfl, kp6, ?_⟩
          conv => arg 8; simp only [Act.put, List.setIfInBounds_toArray, List.set_cons_zero, List.set_cons_succ]
          refine rg_done (by kernel_rfl) ?_
          have h60 : D6 0 = appD (newD n) (l.take (q + 1)) := by rw [hj6, HTA.out, appD_snoc, HE.out.1]
          have H6 := Lib.hid (And.intro h60 hq6)
          clear h60 hj6 hq6 hrun hw1 hs1 hsa hsb hsc hsd hcl5 hf5
          by_cases hltb : q < LB
          · obtain ⟨bad, rfl⟩ : ∃ bad, Ab = some bad := by
              obtain ⟨ad, cs, h, _⟩ := bRD0.out.row q (by rw [bL.out]; exact hltb)
              exact ⟨ad, h⟩
            have bRD := bRD0
            have htb : m.take (q + 1) = m.take q ++ [m[q]'(by rw [bL.out]; exact hltb)] := List.take_succ_eq_append_getElem _
            have HTB := Lib.hid htb
            clear htb
            go_wp2_with fail
            refine rg_begin 9 (F6 1) (by kernel_rfl) (fun w55 d55 => ?_)
            have hf5 := hf6.keep d55
            have hcl5 := hf5.cell 1 (by omega)
            have hw1 : IntKind.i64.wrap ((q : Int) + 1) = (q : Int) + 1 := IntWalk.i64_in _ (by omega)
            have hs1 : (q + 1) - q = 1 := by omega
            have hsa : 0 ≤ (q : Int) + 1 := by omega
            have hsb : (q : Int) + 1 ≤ (bc : Int) := by omega
            have hsd : (0 ≤ (q : Int) + 1 ∧ (q : Int) + 1 ≤ (bc : Int)) = True := eq_true ⟨hsa, hsb⟩
            have hsc : ¬ bc = q := by omega
            have hrun := hf5.run (by omega) bRD.out bsz 1 (by omega) q (by rw [bL.out]; exact hltb) (bc - q) (by have := bcap; omega)
            refine rg_take 0 (d := (some 70)) (v := .slice (some ⟨lb, 0, none⟩) 4 cap) (by decide) rfl rfl (by kernel_rfl) (by kernel_rfl) (by kernel_rfl) (fun _ _ _ h => h) rfl (fun W => rfl) ?_
            conv => arg 8; simp only [Act.put, List.setIfInBounds_toArray, List.set_cons_zero, List.set_cons_succ]
            refine rg_take 1 (d := (some 71)) (v := .pointer (some ⟨lb, 1, none⟩)) (by decide) rfl rfl (by kernel_rfl) (by kernel_rfl) (by kernel_rfl) (fun _ _ _ h => h) rfl (fun W => by go_simp) ?_
            conv => arg 8; simp only [Act.put, List.setIfInBounds_toArray, List.set_cons_zero, List.set_cons_succ]
            refine rg_read 2 (d := (some 72)) (v := ptrD (G 1)) (by decide) (by kernel_rfl) (by kernel_rfl) rfl rfl (by kernel_rfl) (by kernel_rfl) (by kernel_rfl) (fun _ _ _ h => h) rfl (fun W hW => by have hc := (hW.cell (p := ⟨lb, 1, none⟩) (hf5.rlt.2) (fun hh => hf6.nlb 1 (by omega) hh)).trans (hcl5); go_simp) ?_
            conv => arg 8; simp only [Act.put, List.setIfInBounds_toArray, List.set_cons_zero, List.set_cons_succ]
            refine rg_take 3 (d := (some 73)) (v := .slice (some bad) LB bc) (by decide) rfl rfl (by kernel_rfl) (by kernel_rfl) (by kernel_rfl) (fun _ _ _ h => h) rfl (fun W => rfl) ?_
            conv => arg 8; simp only [Act.put, List.setIfInBounds_toArray, List.set_cons_zero, List.set_cons_succ]
            refine rg_take 4 (d := (some 74)) (v := .int .i64 q) (by decide) rfl rfl (by kernel_rfl) (by kernel_rfl) (by kernel_rfl) (fun _ _ _ h => h) rfl (fun W => rfl) ?_
            conv => arg 8; simp only [Act.put, List.setIfInBounds_toArray, List.set_cons_zero, List.set_cons_succ]
            refine rg_take 5 (d := (some 75)) (v := .int .i64 q) (by decide) rfl rfl (by kernel_rfl) (by kernel_rfl) (by kernel_rfl) (fun _ _ _ h => h) rfl (fun W => rfl) ?_
            conv => arg 8; simp only [Act.put, List.setIfInBounds_toArray, List.set_cons_zero, List.set_cons_succ]
            refine rg_take 6 (d := (some 76)) (v := .int .i64 ((q : Int) + 1)) (by decide) rfl rfl (by kernel_rfl) (by kernel_rfl) (by kernel_rfl) (fun _ _ _ h => h) rfl (fun W => by go_simp) ?_
            conv => arg 8; simp only [Act.put, List.setIfInBounds_toArray, List.set_cons_zero, List.set_cons_succ]
            refine rg_take 7 (d := (some 77)) (v := .slice (some (bad.add (q * 3))) 1 (bc - q)) (by decide) rfl rfl (by kernel_rfl) (by kernel_rfl) (by kernel_rfl) (fun _ _ _ h => h) rfl (fun W => by go_simp) ?_
            conv => arg 8; simp only [Act.put, List.setIfInBounds_toArray, List.set_cons_zero, List.set_cons_succ]
            refine rg_call 8 (d := (some 78)) (by kernel_rfl) (hrun) rfl rfl (by kernel_rfl) rfl rfl ?_
            rintro e w7 ⟨⟨r7, rfl⟩, ⟨F7, K7, D7, hf7, hj7, hq7⟩, kp7⟩
            refine ⟨_, rfl, kp7, ?_⟩
            conv => arg 8; simp only [Act.put, List.setIfInBounds_toArray, List.set_cons_zero, List.set_cons_succ]
            refine rg_done (by kernel_rfl) ?_
            have h71 : D7 1 = appD (newD n) (m.take (q + 1)) := by rw [hj7, HTB.out, appD_snoc, H6.out.2 1 (by omega), HE.out.2.1]
            have h70 : D7 0 = appD (newD n) (l.take (q + 1)) := by rw [hq7 0 (by omega), H6.out.1]
            have h72 : D7 2 = newD n := by rw [hq7 2 (by omega), H6.out.2 2 (by omega), HE.out.2.2.1]
            have h73 : D7 3 = newD n := by rw [hq7 3 (by omega), H6.out.2 3 (by omega), HE.out.2.2.2]
            have H7 := Lib.hid (And.intro h70 (And.intro h71 (And.intro h72 h73)))
            clear h70 h71 h72 h73 hj7 hq7 hrun hw1 hs1 hsa hsb hsc hsd hcl5 hf5
            go_wp2_with fail
            go_roundw
            case rel => exact ⟨q + 1, _, _, _, _, .inl (by rw [aL.out]; omega), by go_num, hf7, by omega, H7.out.1, H7.out.2.1, H7.out.2.2.1, H7.out.2.2.2⟩
            case measure => simp only [intOf]; omega
          · have htb : m.take (q + 1) = m.take q := by rw [List.take_of_length_le (by rw [bL.out]; omega), List.take_of_length_le (by rw [bL.out]; omega)]
            have h61 : D6 1 = appD (newD n) (m.take (q + 1)) := by rw [H6.out.2 1 (by omega), HE.out.2.1, htb]
            have h62 : D6 2 = newD n := by rw [H6.out.2 2 (by omega), HE.out.2.2.1]
            have h63 : D6 3 = newD n := by rw [H6.out.2 3 (by omega), HE.out.2.2.2]
            have H7 := Lib.hid (And.intro h61 (And.intro h62 h63))
            clear htb h61 h62 h63
            go_wp2_with fail
            go_roundw
            case rel => exact ⟨q + 1, _, _, _, _, .inl (by rw [aL.out]; omega), by go_num, hf6, by omega, H6.out.1, H7.out.1, H7.out.2.1, H7.out.2.2⟩
            case measure => simp only [intOf]; omega
        · have hta : l.take (q + 1) = l.take q := by rw [List.take_of_length_le (by rw [aL.out]; omega), List.take_of_length_le (by rw [aL.out]; omega)]
          have HTA := Lib.hid hta
          clear hta
          by_cases hltb : q < LB
          · obtain ⟨bad, rfl⟩ : ∃ bad, Ab = some bad := by
              obtain ⟨ad, cs, h, _⟩ := bRD0.out.row q (by rw [bL.out]; exact hltb)
              exact ⟨ad, h⟩
            have bRD := bRD0
            have htb : m.take (q + 1) = m.take q ++ [m[q]'(by rw [bL.out]; exact hltb)] := List.take_succ_eq_append_getElem _
            have HTB := Lib.hid htb
            clear htb
            go_wp2_with fail
            refine rg_begin 9 (F 1) (by kernel_rfl) (fun w5 d5 => ?_)
            have hf5 := hf.keep d5
            have hcl5 := hf5.cell 1 (by omega)
            have hw1 : IntKind.i64.wrap ((q : Int) + 1) = (q : Int) + 1 := IntWalk.i64_in _ (by omega)
            have hs1 : (q + 1) - q = 1 := by omega
            have hsa : 0 ≤ (q : Int) + 1 := by omega
            have hsb : (q : Int) + 1 ≤ (bc : Int) := by omega
            have hsd : (0 ≤ (q : Int) + 1 ∧ (q : Int) + 1 ≤ (bc : Int)) = True := eq_true ⟨hsa, hsb⟩
            have hsc : ¬ bc = q := by omega
            have hrun := hf5.run (by omega) bRD.out bsz 1 (by omega) q (by rw [bL.out]; exact hltb) (bc - q) (by have := bcap; omega)
            refine rg_take 0 (d := (some 70)) (v := .slice (some ⟨lb, 0, none⟩) 4 cap) (by decide) rfl rfl (by kernel_rfl) (by kernel_rfl) (by kernel_rfl) (fun _ _ _ h => h) rfl (fun W => rfl) ?_
            conv => arg 8; simp only [Act.put, List.setIfInBounds_toArray, List.set_cons_zero, List.set_cons_succ]
            refine rg_take 1 (d := (some 71)) (v := .pointer (some ⟨lb, 1, none⟩)) (by decide) rfl rfl (by kernel_rfl) (by kernel_rfl) (by kernel_rfl) (fun _ _ _ h => h) rfl (fun W => by go_simp) ?_
            conv => arg 8; simp only [Act.put, List.setIfInBounds_toArray, List.set_cons_zero, List.set_cons_succ]
            refine rg_read 2 (d := (some 72)) (v := ptrD (G 1)) (by decide) (by kernel_rfl) (by kernel_rfl) rfl rfl (by kernel_rfl) (by kernel_rfl) (by kernel_rfl) (fun _ _ _ h => h) rfl (fun W hW => by have hc := (hW.cell (p := ⟨lb, 1, none⟩) (hf5.rlt.2) (fun hh => hf.nlb 1 (by omega) hh)).trans (hcl5); go_simp) ?_
            conv => arg 8; simp only [Act.put, List.setIfInBounds_toArray, List.set_cons_zero, List.set_cons_succ]
            refine rg_take 3 (d := (some 73)) (v := .slice (some bad) LB bc) (by decide) rfl rfl (by kernel_rfl) (by kernel_rfl) (by kernel_rfl) (fun _ _ _ h => h) rfl (fun W => rfl) ?_
            conv => arg 8; simp only [Act.put, List.setIfInBounds_toArray, List.set_cons_zero, List.set_cons_succ]
            refine rg_take 4 (d := (some 74)) (v := .int .i64 q) (by decide) rfl rfl (by kernel_rfl) (by kernel_rfl) (by kernel_rfl) (fun _ _ _ h => h) rfl (fun W => rfl) ?_
            conv => arg 8; simp only [Act.put, List.setIfInBounds_toArray, List.set_cons_zero, List.set_cons_succ]
            refine rg_take 5 (d := (some 75)) (v := .int .i64 q) (by decide) rfl rfl (by kernel_rfl) (by kernel_rfl) (by kernel_rfl) (fun _ _ _ h => h) rfl (fun W => rfl) ?_
            conv => arg 8; simp only [Act.put, List.setIfInBounds_toArray, List.set_cons_zero, List.set_cons_succ]
            refine rg_take 6 (d := (some 76)) (v := .int .i64 ((q : Int) + 1)) (by decide) rfl rfl (by kernel_rfl) (by kernel_rfl) (by kernel_rfl) (fun _ _ _ h => h) rfl (fun W => by go_simp) ?_
            conv => arg 8; simp only [Act.put, List.setIfInBounds_toArray, List.set_cons_zero, List.set_cons_succ]
            refine rg_take 7 (d := (some 77)) (v := .slice (some (bad.add (q * 3))) 1 (bc - q)) (by decide) rfl rfl (by kernel_rfl) (by kernel_rfl) (by kernel_rfl) (fun _ _ _ h => h) rfl (fun W => by go_simp) ?_
            conv => arg 8; simp only [Act.put, List.setIfInBounds_toArray, List.set_cons_zero, List.set_cons_succ]
            refine rg_call 8 (d := (some 78)) (by kernel_rfl) (hrun) rfl rfl (by kernel_rfl) rfl rfl ?_
            rintro e w6 ⟨⟨r6, rfl⟩, ⟨F6, K6, D6, hf6, hj6, hq6⟩, kp6⟩
            refine ⟨_, rfl, kp6, ?_⟩
            conv => arg 8; simp only [Act.put, List.setIfInBounds_toArray, List.set_cons_zero, List.set_cons_succ]
            refine rg_done (by kernel_rfl) ?_
            have h61 : D6 1 = appD (newD n) (m.take (q + 1)) := by rw [hj6, HTB.out, appD_snoc, HE.out.2.1]
            have h60 : D6 0 = appD (newD n) (l.take (q + 1)) := by rw [hq6 0 (by omega), HE.out.1, HTA.out]
            have h62 : D6 2 = newD n := by rw [hq6 2 (by omega), HE.out.2.2.1]
            have h63 : D6 3 = newD n := by rw [hq6 3 (by omega), HE.out.2.2.2]
            have H7 := Lib.hid (And.intro h60 (And.intro h61 (And.intro h62 h63)))
            clear h60 h61 h62 h63 hj6 hq6 hrun hw1 hs1 hsa hsb hsc hsd hcl5 hf5
            go_wp2_with fail
            go_roundw
            case rel => exact ⟨q + 1, _, _, _, _, .inr (by rw [bL.out]; omega), by go_num, hf6, by omega, H7.out.1, H7.out.2.1, H7.out.2.2.1, H7.out.2.2.2⟩
            case measure => simp only [intOf]; omega
          · have e0 : D 0 = appD (newD n) l := by rw [HE.out.1, List.take_of_length_le (by rw [aL.out]; omega)]
            have e1 : D 1 = appD (newD n) m := by rw [HE.out.2.1, List.take_of_length_le (by rw [bL.out]; omega)]
            have HE2 := Lib.hid (And.intro e0 e1)
            have HF := Lib.hid hf
            clear e0 e1 hf
            go_wp2_with fail
            go_loopw [13] (fun i wr => Ap3 w lb cap n G l m i wr) (fun i _ => LA - (intOf i).toNat)
            case atStart => exact ⟨0, _, _, _, _, Nat.zero_le _, rfl, HF.out, by rw [aL.out, bL.out]; omega, HE2.out.1, HE2.out.2, HE.out.2.2.1, HE.out.2.2.2⟩
            case round =>
              clear HF HE HE2 HTA
              obtain ⟨q, F, K, D, B, hq, rfl, hf, hB, e0, e1, e2, e3⟩ := hrel
              rw [aL.out] at hq
              rw [aL.out, bL.out] at hB
              have HE := Lib.hid (And.intro e0 (And.intro e1 (And.intro e2 e3)))
              clear e0 e1 e2 e3
              by_cases hlta : q < LA
              · obtain ⟨aad, rfl⟩ : ∃ aad, Aa = some aad := by
                  obtain ⟨ad, cs, h, _⟩ := aRD0.out.row q (by rw [aL.out]; exact hlta)
                  exact ⟨ad, h⟩
                have aRD := aRD0
                have hta : l.take (q + 1) = l.take q ++ [l[q]'(by rw [aL.out]; exact hlta)] := List.take_succ_eq_append_getElem _
                have HTA := Lib.hid hta
                clear hta
                go_wp2_with fail
                refine rg_begin 9 (F 2) (by kernel_rfl) (fun w5 d5 => ?_)
                have hf5 := hf.keep d5
                have hcl5 := hf5.cell 2 (by omega)
                have hw1 : IntKind.i64.wrap ((q : Int) + 1) = (q : Int) + 1 := IntWalk.i64_in _ (by omega)
                have hs1 : (q + 1) - q = 1 := by omega
                have hsa : 0 ≤ (q : Int) + 1 := by omega
                have hsb : (q : Int) + 1 ≤ (ac : Int) := by omega
                have hsd : (0 ≤ (q : Int) + 1 ∧ (q : Int) + 1 ≤ (ac : Int)) = True := eq_true ⟨hsa, hsb⟩
                have hsc : ¬ ac = q := by omega
                have hrun := hf5.run (by omega) aRD.out asz 2 (by omega) q (by rw [aL.out]; exact hlta) (ac - q) (by have := acap; omega)
                refine rg_take 0 (d := (some 85)) (v := .slice (some ⟨lb, 0, none⟩) 4 cap) (by decide) rfl rfl (by kernel_rfl) (by kernel_rfl) (by kernel_rfl) (fun _ _ _ h => h) rfl (fun W => rfl) ?_
                conv => arg 8; simp only [Act.put, List.setIfInBounds_toArray, List.set_cons_zero, List.set_cons_succ]
                refine rg_take 1 (d := (some 86)) (v := .pointer (some ⟨lb, 2, none⟩)) (by decide) rfl rfl (by kernel_rfl) (by kernel_rfl) (by kernel_rfl) (fun _ _ _ h => h) rfl (fun W => by go_simp) ?_
                conv => arg 8; simp only [Act.put, List.setIfInBounds_toArray, List.set_cons_zero, List.set_cons_succ]
                refine rg_read 2 (d := (some 87)) (v := ptrD (G 2)) (by decide) (by kernel_rfl) (by kernel_rfl) rfl rfl (by kernel_rfl) (by kernel_rfl) (by kernel_rfl) (fun _ _ _ h => h) rfl (fun W hW => by have hc := (hW.cell (p := ⟨lb, 2, none⟩) (hf5.rlt.2) (fun hh => hf.nlb 2 (by omega) hh)).trans (hcl5); go_simp) ?_
                conv => arg 8; simp only [Act.put, List.setIfInBounds_toArray, List.set_cons_zero, List.set_cons_succ]
                refine rg_take 3 (d := (some 88)) (v := .slice (some aad) LA ac) (by decide) rfl rfl (by kernel_rfl) (by kernel_rfl) (by kernel_rfl) (fun _ _ _ h => h) rfl (fun W => rfl) ?_
                conv => arg 8; simp only [Act.put, List.setIfInBounds_toArray, List.set_cons_zero, List.set_cons_succ]
                refine rg_take 4 (d := (some 89)) (v := .int .i64 q) (by decide) rfl rfl (by kernel_rfl) (by kernel_rfl) (by kernel_rfl) (fun _ _ _ h => h) rfl (fun W => rfl) ?_
                conv => arg 8; simp only [Act.put, List.setIfInBounds_toArray, List.set_cons_zero, List.set_cons_succ]
                refine rg_take 5 (d := (some 90)) (v := .int .i64 q) (by decide) rfl rfl (by kernel_rfl) (by kernel_rfl) (by kernel_rfl) (fun _ _ _ h => h) rfl (fun W => rfl) ?_
                conv => arg 8; simp only [Act.put, List.setIfInBounds_toArray, List.set_cons_zero, List.set_cons_succ]
                refine rg_take 6 (d := (some 91)) (v := .int .i64 ((q : Int) + 1)) (by decide) rfl rfl (by kernel_rfl) (by kernel_rfl) (by kernel_rfl) (fun _ _ _ h => h) rfl (fun W => by go_simp) ?_
                conv => arg 8; simp only [Act.put, List.setIfInBounds_toArray, List.set_cons_zero, List.set_cons_succ]
                refine rg_take 7 (d := (some 92)) (v := .slice (some (aad.add (q * 3))) 1 (ac - q)) (by decide) rfl rfl (by kernel_rfl) (by kernel_rfl) (by kernel_rfl) (fun _ _ _ h => h) rfl (fun W => by go_simp) ?_
                conv => arg 8; simp only [Act.put, List.setIfInBounds_toArray, List.set_cons_zero, List.set_cons_succ]
                refine rg_call 8 (d := (some 93)) (by kernel_rfl) (hrun) rfl rfl (by kernel_rfl) rfl rfl ?_
                rintro e w6 ⟨⟨r6, rfl⟩, ⟨F6, K6, D6, hf6, hj6, hq6⟩, kp6⟩
                refine ⟨_, rfl, kp6, ?_⟩
                conv => arg 8; simp only [Act.put, List.setIfInBounds_toArray, List.set_cons_zero, List.set_cons_succ]
                refine rg_done (by kernel_rfl) ?_
                have h62 : D6 2 = appD (newD n) (l.take (q + 1)) := by rw [hj6, HTA.out, appD_snoc, HE.out.2.2.1]
                have h60 := hq6 0 (by omega)
                have h61 := hq6 1 (by omega)
                have h63 := hq6 3 (by omega)
                rw [HE.out.1] at h60
                rw [HE.out.2.1] at h61
                rw [HE.out.2.2.2] at h63
                have H7 := Lib.hid (And.intro h60 (And.intro h61 (And.intro h62 h63)))
                clear h60 h61 h62 h63 hj6 hq6 hrun hw1 hs1 hsa hsb hsc hsd hcl5 hf5
                go_wp2_with fail
                go_roundw
                case rel => exact ⟨q + 1, _, _, _, _, by rw [aL.out]; omega, by go_num, hf6, by rw [aL.out, bL.out]; omega, H7.out.1, H7.out.2.1, H7.out.2.2.1, H7.out.2.2.2⟩
                case measure => exact meas_up hlta
              · have e2 : D 2 = appD (newD n) l := by rw [HE.out.2.2.1, List.take_of_length_le (by rw [aL.out]; omega)]
                have HE2 := Lib.hid e2
                have HF := Lib.hid hf
                clear e2 hf
                go_wp2_with fail
                go_loopw [14] (fun i wr => Ap4 w lb cap n G l m i wr) (fun i _ => LB - (intOf i).toNat)
                case atStart => exact ⟨0, _, _, _, _, Nat.zero_le _, rfl, HF.out, by rw [aL.out, bL.out]; omega, HE.out.1, HE.out.2.1, HE2.out, HE.out.2.2.2⟩
                case round =>
                  clear HF HE HE2
                  obtain ⟨q, F, K, D, B, hq, rfl, hf, hB, e0, e1, e2, e3⟩ := hrel
                  rw [bL.out] at hq
                  rw [aL.out, bL.out] at hB
                  have HE := Lib.hid (And.intro e0 (And.intro e1 (And.intro e2 e3)))
                  clear e0 e1 e2 e3
                  by_cases hltb : q < LB
                  · obtain ⟨bad, rfl⟩ : ∃ bad, Ab = some bad := by
                      obtain ⟨ad, cs, h, _⟩ := bRD0.out.row q (by rw [bL.out]; exact hltb)
                      exact ⟨ad, h⟩
                    have bRD := bRD0
                    have htb : m.take (q + 1) = m.take q ++ [m[q]'(by rw [bL.out]; exact hltb)] := List.take_succ_eq_append_getElem _
                    have HTB := Lib.hid htb
                    clear htb
                    go_wp2_with fail
                    refine rg_begin 9 (F 3) (by kernel_rfl) (fun w5 d5 => ?_)
                    have hf5 := hf.keep d5
                    have hcl5 := hf5.cell 3 (by omega)
                    have hw1 : IntKind.i64.wrap ((q : Int) + 1) = (q : Int) + 1 := IntWalk.i64_in _ (by omega)
                    have hs1 : (q + 1) - q = 1 := by omega
                    have hsa : 0 ≤ (q : Int) + 1 := by omega
                    have hsb : (q : Int) + 1 ≤ (bc : Int) := by omega
                    have hsd : (0 ≤ (q : Int) + 1 ∧ (q : Int) + 1 ≤ (bc : Int)) = True := eq_true ⟨hsa, hsb⟩
                    have hsc : ¬ bc = q := by omega
                    have hrun := hf5.run (by omega) bRD.out bsz 3 (by omega) q (by rw [bL.out]; exact hltb) (bc - q) (by have := bcap; omega)
                    refine rg_take 0 (d := (some 100)) (v := .slice (some ⟨lb, 0, none⟩) 4 cap) (by decide) rfl rfl (by kernel_rfl) (by kernel_rfl) (by kernel_rfl) (fun _ _ _ h => h) rfl (fun W => rfl) ?_
                    conv => arg 8; simp only [Act.put, List.setIfInBounds_toArray, List.set_cons_zero, List.set_cons_succ]
                    refine rg_take 1 (d := (some 101)) (v := .pointer (some ⟨lb, 3, none⟩)) (by decide) rfl rfl (by kernel_rfl) (by kernel_rfl) (by kernel_rfl) (fun _ _ _ h => h) rfl (fun W => by go_simp) ?_
                    conv => arg 8; simp only [Act.put, List.setIfInBounds_toArray, List.set_cons_zero, List.set_cons_succ]
                    refine rg_read 2 (d := (some 102)) (v := ptrD (G 3)) (by decide) (by kernel_rfl) (by kernel_rfl) rfl rfl (by kernel_rfl) (by kernel_rfl) (by kernel_rfl) (fun _ _ _ h => h) rfl (fun W hW => by have hc := (hW.cell (p := ⟨lb, 3, none⟩) (hf5.rlt.2) (fun hh => hf.nlb 3 (by omega) hh)).trans (hcl5); go_simp) ?_
                    conv => arg 8; simp only [Act.put, List.setIfInBounds_toArray, List.set_cons_zero, List.set_cons_succ]
                    refine rg_take 3 (d := (some 103)) (v := .slice (some bad) LB bc) (by decide) rfl rfl (by kernel_rfl) (by kernel_rfl) (by kernel_rfl) (fun _ _ _ h => h) rfl (fun W => rfl) ?_
                    conv => arg 8; simp only [Act.put, List.setIfInBounds_toArray, List.set_cons_zero, List.set_cons_succ]
                    refine rg_take 4 (d := (some 104)) (v := .int .i64 q) (by decide) rfl rfl (by kernel_rfl) (by kernel_rfl) (by kernel_rfl) (fun _ _ _ h => h) rfl (fun W => rfl) ?_
                    conv => arg 8; simp only [Act.put, List.setIfInBounds_toArray, List.set_cons_zero, List.set_cons_succ]
                    refine rg_take 5 (d := (some 105)) (v := .int .i64 q) (by decide) rfl rfl (by kernel_rfl) (by kernel_rfl) (by kernel_rfl) (fun _ _ _ h => h) rfl (fun W => rfl) ?_
                    conv => arg 8; simp only [Act.put, List.setIfInBounds_toArray, List.set_cons_zero, List.set_cons_succ]
                    refine rg_take 6 (d := (some 106)) (v := .int .i64 ((q : Int) + 1)) (by decide) rfl rfl (by kernel_rfl) (by kernel_rfl) (by kernel_rfl) (fun _ _ _ h => h) rfl (fun W => by go_simp) ?_
                    conv => arg 8; simp only [Act.put, List.setIfInBounds_toArray, List.set_cons_zero, List.set_cons_succ]
                    refine rg_take 7 (d := (some 107)) (v := .slice (some (bad.add (q * 3))) 1 (bc - q)) (by decide) rfl rfl (by kernel_rfl) (by kernel_rfl) (by kernel_rfl) (fun _ _ _ h => h) rfl (fun W => by go_simp) ?_
                    conv => arg 8; simp only [Act.put, List.setIfInBounds_toArray, List.set_cons_zero, List.set_cons_succ]
                    refine rg_call 8 (d := (some 108)) (by kernel_rfl) (hrun) rfl rfl (by kernel_rfl) rfl rfl ?_
                    rintro e w6 ⟨⟨r6, rfl⟩, ⟨F6, K6, D6, hf6, hj6, hq6⟩, kp6⟩
                    refine ⟨_, rfl, kp6, ?_⟩
                    conv => arg 8; simp only [Act.put, List.setIfInBounds_toArray, List.set_cons_zero, List.set_cons_succ]
                    refine rg_done (by kernel_rfl) ?_
                    have h63 : D6 3 = appD (newD n) (m.take (q + 1)) := by rw [hj6, HTB.out, appD_snoc, HE.out.2.2.2]
                    have h60 := hq6 0 (by omega)
                    have h61 := hq6 1 (by omega)
                    have h62 := hq6 2 (by omega)
                    rw [HE.out.1] at h60
                    rw [HE.out.2.1] at h61
                    rw [HE.out.2.2.1] at h62
                    have H7 := Lib.hid (And.intro h60 (And.intro h61 (And.intro h62 h63)))
                    clear h60 h61 h62 h63 hj6 hq6 hrun hw1 hs1 hsa hsb hsc hsd hcl5 hf5
                    go_wp2_with fail
                    go_roundw
                    case rel => exact ⟨q + 1, _, _, _, _, by rw [bL.out]; omega, by go_num, hf6, by rw [aL.out, bL.out]; omega, H7.out.1, H7.out.2.1, H7.out.2.2.1, H7.out.2.2.2⟩
                    case measure => exact meas_up hltb
                  · have e3 : D 3 = D 1 := by rw [HE.out.2.2.2, HE.out.2.1, List.take_of_length_le (by rw [bL.out]; omega)]
                    have e2 : D 2 = D 0 := by rw [HE.out.2.2.1, HE.out.1]
                    have HE2 := Lib.hid (And.intro e2 e3)
                    have HF := Lib.hid hf
                    have hBB : B ≤ 100000000 := by omega
                    clear e2 e3 hf HE
                    go_wp2_with fail
                    go_loopw [15] (fun i wx => ∃ q : Nat, q ≤ 2 ∧ i = .int .i64 q ∧ KpN wr wx) (fun i _ => 2 - (intOf i).toNat)
                    case atStart => exact ⟨0, by omega, rfl, Kp.refl _ _⟩
                    case round =>
                      obtain ⟨q, hq, rfl, hk⟩ := hrel
                      by_cases hlt5 : q < 2
                      · have hDq : D (q + 2) = D q := by
                          obtain h | h : q = 0 ∨ q = 1 := by omega
                          · subst h; exact HE2.out.1
                          · subst h; exact HE2.out.2
                        have hr := HF.out.keep hk
                        have hx1 := hr.ds.at_ q (by omega)
                        have hx2 := hr.ds.at_ (q + 2) (by omega)
                        rw [hDq] at hx2
                        have hc1 := hr.cell q (by omega)
                        have hc2 := hr.cell (q + 2) (by omega)
                        have hdn := hr.dn q (by omega)
                        have kb1 := hr.kb q (by omega)
                        have kb2 := hr.kb (q + 2) (by omega)
                        have hlb := hr.rlt.2
                        have hw2 : IntKind.i64.wrap ((q : Int) + 2) = (q : Int) + 2 := IntWalk.i64_in _ (by omega)
                        have HX := Lib.hid (And.intro hx1 (And.intro hx2 hdn))
                        have HW2 := Lib.hid hw2
                        clear hx1 hx2 hdn hDq hr hw2
                        go_wp2_with fail
                        refine (dirty_y HX.out.1 (by omega)).mono ?_
                        rintro e w7 ⟨x1, y1, rfl, ox1, oy1, k7⟩
                        have hc27 : w7.cell? ⟨lb, q + 2, none⟩ = some (ptrD (G (q + 2))) := by rw [k7.cell hlb (fun x => x)]; exact hc2
                        go_wp2_with fail
                        refine (dirty_y (HX.out.2.1.keepN k7) (by omega)).mono ?_
                        rintro e w8 ⟨x2, y2, rfl, ox2, oy2, k8⟩
                        have k78 := k7.thenN k8
                        have hz7 := k7.size
                        have hz8 := k8.size
                        have hdl := dirtyZ_len (D q)
                        have hvl := versZ_len (D q)
                        rw [HX.out.2.2] at hdl hvl
                        have HX1 := Lib.hid ((ox1.rd).keepN k8)
                        have HY1 := Lib.hid ((oy1.rd).keepN k8)
                        have HX2 := Lib.hid (ox2.rd)
                        have HY2 := Lib.hid (oy2.rd)
                        have HD1 := Lib.hid (HX.out.1.keepN k78)
                        have HD2 := Lib.hid (HX.out.2.1.keepN k78)
                        have C1 := Lib.hid (show w8.cell? ⟨lb, q, none⟩ = some (ptrD (G q)) by rw [k78.cell hlb (fun x => x)]; exact hc1)
                        have C2 := Lib.hid (show w8.cell? ⟨lb, q + 2, none⟩ = some (ptrD (G (q + 2))) by rw [k78.cell hlb (fun x => x)]; exact hc2)
                        have himl := image_len (D q) HD1.out.len
                        rw [HX.out.2.2] at himl
                        have HIML := Lib.hid himl
                        clear ox1 oy1 ox2 oy2 hc1 hc2 hc27 himl
                        go_wp2_with fail
                        refine rg_begin 39 (fun _ => False) (by kernel_rfl) (fun w9 d9 => ?_)
                        have hw2 := HW2.out
                        have hq4 : ¬ 4 ≤ (q : Int) := by omega
                        have hqr : (0 ≤ (q : Int) + 2 ∧ (q : Int) + 2 < 4) = True := eq_true ⟨by omega, by omega⟩
                        have hqt : ((q : Int) + 2).toNat = q + 2 := by omega
                        have hz9 := d9.size
                        have c19 : w9.cell? ⟨lb, q, none⟩ = some (ptrD (G q)) := by rw [d9.cell (show lb < _ by omega) (fun x => x)]; exact C1.out
                        have c29 : w9.cell? ⟨lb, q + 2, none⟩ = some (ptrD (G (q + 2))) := by rw [d9.cell (show lb < _ by omega) (fun x => x)]; exact C2.out
                        refine rg_take 0 (d := (some 130)) (v := .slice (some ⟨lb, 0, none⟩) 4 cap) (by decide) rfl rfl (by kernel_rfl) (by kernel_rfl) (by kernel_rfl) (fun _ _ _ h => h) rfl (fun W => rfl) ?_
                        conv => arg 8; simp only [Act.put, List.setIfInBounds_toArray, List.set_cons_zero, List.set_cons_succ]
                        refine rg_take 1 (d := (some 131)) (v := .int .i64 q) (by decide) rfl rfl (by kernel_rfl) (by kernel_rfl) (by kernel_rfl) (fun _ _ _ h => h) rfl (fun W => rfl) ?_
                        conv => arg 8; simp only [Act.put, List.setIfInBounds_toArray, List.set_cons_zero, List.set_cons_succ]
                        refine rg_take 2 (d := (some 132)) (v := .pointer (some ⟨lb, q, none⟩)) (by decide) rfl rfl (by kernel_rfl) (by kernel_rfl) (by kernel_rfl) (fun _ _ _ h => h) rfl (fun W => by go_simp) ?_
                        conv => arg 8; simp only [Act.put, List.setIfInBounds_toArray, List.set_cons_zero, List.set_cons_succ]
                        refine rg_read 3 (d := (some 133)) (v := ptrD (G q)) (by decide) (by kernel_rfl) (by kernel_rfl) rfl rfl (by kernel_rfl) (by kernel_rfl) (by kernel_rfl) (fun _ _ _ h => h) rfl (fun W hW => by have hc := (hW.cell (p := ⟨lb, q, none⟩) ((show lb < _ by omega)) (fun x => x)).trans (c19); go_simp) ?_
                        conv => arg 8; simp only [Act.put, List.setIfInBounds_toArray, List.set_cons_zero, List.set_cons_succ]
                        refine rg_take 5 (d := (some 135)) (v := .slice (some ⟨lb, 0, none⟩) 4 cap) (by decide) rfl rfl (by kernel_rfl) (by kernel_rfl) (by kernel_rfl) (fun _ _ _ h => h) rfl (fun W => rfl) ?_
                        conv => arg 8; simp only [Act.put, List.setIfInBounds_toArray, List.set_cons_zero, List.set_cons_succ]
                        refine rg_take 6 (d := (some 136)) (v := .int .i64 q) (by decide) rfl rfl (by kernel_rfl) (by kernel_rfl) (by kernel_rfl) (fun _ _ _ h => h) rfl (fun W => rfl) ?_
                        conv => arg 8; simp only [Act.put, List.setIfInBounds_toArray, List.set_cons_zero, List.set_cons_succ]
                        refine rg_take 7 (d := (some 137)) (v := .int .i64 ((q : Int) + 2)) (by decide) rfl rfl (by kernel_rfl) (by kernel_rfl) (by kernel_rfl) (fun _ _ _ h => h) rfl (fun W => by go_simp) ?_
                        conv => arg 8; simp only [Act.put, List.setIfInBounds_toArray, List.set_cons_zero, List.set_cons_succ]
                        refine rg_take 8 (d := (some 138)) (v := .pointer (some ⟨lb, q + 2, none⟩)) (by decide) rfl rfl (by kernel_rfl) (by kernel_rfl) (by kernel_rfl) (fun _ _ _ h => h) rfl (fun W => by go_simp) ?_
                        conv => arg 8; simp only [Act.put, List.setIfInBounds_toArray, List.set_cons_zero, List.set_cons_succ]
                        refine rg_read 9 (d := (some 139)) (v := ptrD (G (q + 2))) (by decide) (by kernel_rfl) (by kernel_rfl) rfl rfl (by kernel_rfl) (by kernel_rfl) (by kernel_rfl) (fun _ _ _ h => h) rfl (fun W hW => by have hc := (hW.cell (p := ⟨lb, q + 2, none⟩) ((show lb < _ by omega)) (fun x => x)).trans (c29); go_simp) ?_
                        conv => arg 8; simp only [Act.put, List.setIfInBounds_toArray, List.set_cons_zero, List.set_cons_succ]
                        refine rg_call 4 (d := (some 134)) (by kernel_rfl) (image_x (HD1.out.keepN d9)) rfl rfl (by kernel_rfl) rfl rfl ?_
                        rintro e w10 ⟨v10, rfl, o10, k10⟩
                        refine ⟨_, rfl, k10, ?_⟩
                        conv => arg 8; simp only [Act.put, List.setIfInBounds_toArray, List.set_cons_zero, List.set_cons_succ]
                        have hz10 := k10.size
                        refine rg_call 10 (d := (some 140)) (by kernel_rfl) (image_x ((HD2.out.keepN d9).keepN k10)) rfl rfl (by kernel_rfl) rfl rfl ?_
                        rintro e w11 ⟨v11, rfl, o11, k11⟩
                        refine ⟨_, rfl, k11, ?_⟩
                        conv => arg 8; simp only [Act.put, List.setIfInBounds_toArray, List.set_cons_zero, List.set_cons_succ]
                        have hz11 := k11.size
                        refine rg_call 11 (d := (some 141)) (by kernel_rfl) (Bytes_c (o10.readsB.keepN k11) o11.readsB (by rw [HIML.out]; omega)) rfl rfl (by kernel_rfl) rfl rfl ?_
                        rintro e w12 ⟨rfl, k12⟩
                        refine ⟨_, rfl, k12, ?_⟩
                        conv => arg 8; simp only [Act.put, List.setIfInBounds_toArray, List.set_cons_zero, List.set_cons_succ]
                        (try rw [show decide (imageD (D q) = imageD (D q)) = true by simp])
                        have k912 := ((d9.thenN k10).thenN k11).thenN k12
                        refine rg_take 12 (d := (some 142)) (v := .bool false) (by decide) rfl rfl (by kernel_rfl) (by kernel_rfl) (by kernel_rfl) (fun _ _ _ h => h) rfl (fun W => rfl) ?_
                        conv => arg 8; simp only [Act.put, List.setIfInBounds_toArray, List.set_cons_zero, List.set_cons_succ]
                        refine rg_take 13 (d := (some 143)) (v := .bool false) (by decide) rfl rfl (by kernel_rfl) (by kernel_rfl) (by kernel_rfl) (fun _ _ _ h => h) rfl (fun W => rfl) ?_
                        conv => arg 8; simp only [Act.put, List.setIfInBounds_toArray, List.set_cons_zero, List.set_cons_succ]
                        refine rg_take 14 (d := (some 144)) (v := x1) (by decide) rfl rfl (by kernel_rfl) (by kernel_rfl) (by kernel_rfl) (fun _ _ _ h => h) rfl (fun W => rfl) ?_
                        conv => arg 8; simp only [Act.put, List.setIfInBounds_toArray, List.set_cons_zero, List.set_cons_succ]
                        refine rg_take 15 (d := (some 145)) (v := x2) (by decide) rfl rfl (by kernel_rfl) (by kernel_rfl) (by kernel_rfl) (fun _ _ _ h => h) rfl (fun W => rfl) ?_
                        conv => arg 8; simp only [Act.put, List.setIfInBounds_toArray, List.set_cons_zero, List.set_cons_succ]
                        refine rg_call 16 (d := (some 146)) (by kernel_rfl) (Ints_c (HX1.out.keepN k912) (HX2.out.keepN k912) (by omega)) rfl rfl (by kernel_rfl) rfl rfl ?_
                        rintro e w13 ⟨rfl, k13⟩
                        refine ⟨_, rfl, k13, ?_⟩
                        conv => arg 8; simp only [Act.put, List.setIfInBounds_toArray, List.set_cons_zero, List.set_cons_succ]
                        (try rw [show decide (dirtyZ (D q) = dirtyZ (D q)) = true by simp])
                        have k913 := k912.thenN k13
                        refine rg_take 17 (d := (some 147)) (v := .bool false) (by decide) rfl rfl (by kernel_rfl) (by kernel_rfl) (by kernel_rfl) (fun _ _ _ h => h) rfl (fun W => rfl) ?_
                        conv => arg 8; simp only [Act.put, List.setIfInBounds_toArray, List.set_cons_zero, List.set_cons_succ]
                        refine rg_take 18 (d := (some 148)) (v := .bool false) (by decide) rfl rfl (by kernel_rfl) (by kernel_rfl) (by kernel_rfl) (fun _ _ _ h => h) rfl (fun W => rfl) ?_
                        conv => arg 8; simp only [Act.put, List.setIfInBounds_toArray, List.set_cons_zero, List.set_cons_succ]
                        refine rg_take 19 (d := (some 149)) (v := .bool false) (by decide) rfl rfl (by kernel_rfl) (by kernel_rfl) (by kernel_rfl) (fun _ _ _ h => h) rfl (fun W => rfl) ?_
                        conv => arg 8; simp only [Act.put, List.setIfInBounds_toArray, List.set_cons_zero, List.set_cons_succ]
                        refine rg_take 20 (d := (some 150)) (v := y1) (by decide) rfl rfl (by kernel_rfl) (by kernel_rfl) (by kernel_rfl) (fun _ _ _ h => h) rfl (fun W => rfl) ?_
                        conv => arg 8; simp only [Act.put, List.setIfInBounds_toArray, List.set_cons_zero, List.set_cons_succ]
                        refine rg_take 21 (d := (some 151)) (v := y2) (by decide) rfl rfl (by kernel_rfl) (by kernel_rfl) (by kernel_rfl) (fun _ _ _ h => h) rfl (fun W => rfl) ?_
                        conv => arg 8; simp only [Act.put, List.setIfInBounds_toArray, List.set_cons_zero, List.set_cons_succ]
                        refine rg_call 22 (d := (some 152)) (by kernel_rfl) (Ints_c (HY1.out.keepN k913) (HY2.out.keepN k913) (by omega)) rfl rfl (by kernel_rfl) rfl rfl ?_
                        rintro e w14 ⟨rfl, k14⟩
                        refine ⟨_, rfl, k14, ?_⟩
                        conv => arg 8; simp only [Act.put, List.setIfInBounds_toArray, List.set_cons_zero, List.set_cons_succ]
                        (try rw [show decide (versZ (D q) = versZ (D q)) = true by simp])
                        have k914 := k913.thenN k14
                        have hz914 := k914.size
                        have c114 : w14.cell? ⟨lb, q, none⟩ = some (ptrD (G q)) := by rw [k914.cell (show lb < _ by omega) (fun x => x)]; exact C1.out
                        have c214 : w14.cell? ⟨lb, q + 2, none⟩ = some (ptrD (G (q + 2))) := by rw [k914.cell (show lb < _ by omega) (fun x => x)]; exact C2.out
                        refine rg_take 23 (d := (some 153)) (v := .bool false) (by decide) rfl rfl (by kernel_rfl) (by kernel_rfl) (by kernel_rfl) (fun _ _ _ h => h) rfl (fun W => rfl) ?_
                        conv => arg 8; simp only [Act.put, List.setIfInBounds_toArray, List.set_cons_zero, List.set_cons_succ]
                        refine rg_take 24 (d := (some 154)) (v := .bool false) (by decide) rfl rfl (by kernel_rfl) (by kernel_rfl) (by kernel_rfl) (fun _ _ _ h => h) rfl (fun W => rfl) ?_
                        conv => arg 8; simp only [Act.put, List.setIfInBounds_toArray, List.set_cons_zero, List.set_cons_succ]
                        refine rg_take 25 (d := (some 155)) (v := .bool false) (by decide) rfl rfl (by kernel_rfl) (by kernel_rfl) (by kernel_rfl) (fun _ _ _ h => h) rfl (fun W => rfl) ?_
                        conv => arg 8; simp only [Act.put, List.setIfInBounds_toArray, List.set_cons_zero, List.set_cons_succ]
                        refine rg_take 26 (d := (some 156)) (v := .slice (some ⟨lb, 0, none⟩) 4 cap) (by decide) rfl rfl (by kernel_rfl) (by kernel_rfl) (by kernel_rfl) (fun _ _ _ h => h) rfl (fun W => rfl) ?_
                        conv => arg 8; simp only [Act.put, List.setIfInBounds_toArray, List.set_cons_zero, List.set_cons_succ]
                        refine rg_take 27 (d := (some 157)) (v := .int .i64 q) (by decide) rfl rfl (by kernel_rfl) (by kernel_rfl) (by kernel_rfl) (fun _ _ _ h => h) rfl (fun W => rfl) ?_
                        conv => arg 8; simp only [Act.put, List.setIfInBounds_toArray, List.set_cons_zero, List.set_cons_succ]
                        refine rg_take 28 (d := (some 158)) (v := .pointer (some ⟨lb, q, none⟩)) (by decide) rfl rfl (by kernel_rfl) (by kernel_rfl) (by kernel_rfl) (fun _ _ _ h => h) rfl (fun W => by go_simp) ?_
                        conv => arg 8; simp only [Act.put, List.setIfInBounds_toArray, List.set_cons_zero, List.set_cons_succ]
                        refine rg_read 29 (d := (some 159)) (v := ptrD (G q)) (by decide) (by kernel_rfl) (by kernel_rfl) rfl rfl (by kernel_rfl) (by kernel_rfl) (by kernel_rfl) (fun _ _ _ h => h) rfl (fun W hW => by have hc := (hW.cell (p := ⟨lb, q, none⟩) ((show lb < _ by omega)) (fun x => x)).trans (c114); go_simp) ?_
                        conv => arg 8; simp only [Act.put, List.setIfInBounds_toArray, List.set_cons_zero, List.set_cons_succ]
                        refine rg_take 31 (d := (some 161)) (v := .slice (some ⟨lb, 0, none⟩) 4 cap) (by decide) rfl rfl (by kernel_rfl) (by kernel_rfl) (by kernel_rfl) (fun _ _ _ h => h) rfl (fun W => rfl) ?_
                        conv => arg 8; simp only [Act.put, List.setIfInBounds_toArray, List.set_cons_zero, List.set_cons_succ]
                        refine rg_take 32 (d := (some 162)) (v := .int .i64 q) (by decide) rfl rfl (by kernel_rfl) (by kernel_rfl) (by kernel_rfl) (fun _ _ _ h => h) rfl (fun W => rfl) ?_
                        conv => arg 8; simp only [Act.put, List.setIfInBounds_toArray, List.set_cons_zero, List.set_cons_succ]
                        refine rg_take 33 (d := (some 163)) (v := .int .i64 ((q : Int) + 2)) (by decide) rfl rfl (by kernel_rfl) (by kernel_rfl) (by kernel_rfl) (fun _ _ _ h => h) rfl (fun W => by go_simp) ?_
                        conv => arg 8; simp only [Act.put, List.setIfInBounds_toArray, List.set_cons_zero, List.set_cons_succ]
                        refine rg_take 34 (d := (some 164)) (v := .pointer (some ⟨lb, q + 2, none⟩)) (by decide) rfl rfl (by kernel_rfl) (by kernel_rfl) (by kernel_rfl) (fun _ _ _ h => h) rfl (fun W => by go_simp) ?_
                        conv => arg 8; simp only [Act.put, List.setIfInBounds_toArray, List.set_cons_zero, List.set_cons_succ]
                        refine rg_read 35 (d := (some 165)) (v := ptrD (G (q + 2))) (by decide) (by kernel_rfl) (by kernel_rfl) rfl rfl (by kernel_rfl) (by kernel_rfl) (by kernel_rfl) (fun _ _ _ h => h) rfl (fun W hW => by have hc := (hW.cell (p := ⟨lb, q + 2, none⟩) ((show lb < _ by omega)) (fun x => x)).trans (c214); go_simp) ?_
                        conv => arg 8; simp only [Act.put, List.setIfInBounds_toArray, List.set_cons_zero, List.set_cons_succ]
                        refine rg_call 30 (d := (some 160)) (by kernel_rfl) (down_x (HD1.out.keepN k914)) rfl rfl (by kernel_rfl) rfl rfl ?_
                        rintro e w15 ⟨rfl, rfl⟩
                        refine ⟨_, rfl, Kp.refl _ _, ?_⟩
                        conv => arg 8; simp only [Act.put, List.setIfInBounds_toArray, List.set_cons_zero, List.set_cons_succ]
                        refine rg_call 36 (d := (some 166)) (by kernel_rfl) (down_x (HD2.out.keepN k914)) rfl rfl (by kernel_rfl) rfl rfl ?_
                        rintro e w15 ⟨rfl, rfl⟩
                        refine ⟨_, rfl, Kp.refl _ _, ?_⟩
                        conv => arg 8; simp only [Act.put, List.setIfInBounds_toArray, List.set_cons_zero, List.set_cons_succ]
                        refine rg_take 37 (d := (some 167)) (v := .bool false) (by decide) rfl rfl (by kernel_rfl) (by kernel_rfl) (by kernel_rfl) (fun _ _ _ h => h) rfl (fun W => by go_simp) ?_
                        conv => arg 8; simp only [Act.put, List.setIfInBounds_toArray, List.set_cons_zero, List.set_cons_succ]
                        refine rg_take 38 (d := (some 168)) (v := .bool false) (by decide) rfl rfl (by kernel_rfl) (by kernel_rfl) (by kernel_rfl) (fun _ _ _ h => h) rfl (fun W => rfl) ?_
                        conv => arg 8; simp only [Act.put, List.setIfInBounds_toArray, List.set_cons_zero, List.set_cons_succ]
                        refine rg_done (by kernel_rfl) ?_
                        clear hqr hqt hw2 hq4
                        go_wp2_with fail
                        go_roundw
                        case rel => exact ⟨q + 1, by omega, by go_num, (hk.thenN k78).thenN k914⟩
                        case measure => exact meas_up hlt5
                      · have hr := HF.out.ds.kp.thenN hk
                        clear HF
                        go_wp2_with fail
                        go_ret
                        exact ⟨rfl, hr⟩
end Go.Proofs.Ythkbgbbejgpeaaa
