/- bundle: the functions of the table, tells, EID.good, fits. -/
import Derived.Test.YteokkpmndfekoaaBV
import Derived.Test.YteokkpmndfekoaaBT
namespace Go.Proofs.Yteokkpmndfekoaa
open Go Go.RowKit Go.ChangeShapes Go.WideShapes Go.ChangeAt
set_option maxRecDepth 100000

theorem box_store {W : World} {g : Nat} {cs : List Value} (h : CellsAt W g cs) (t : TypeId) (ds : Array Value) (hl : ds.size = cs.length) (hi : (Try.prog.info? t).map (·.size) = some ds.size) (h1 : ds.all (·.oneCell') = true) :
    ∃ W3, (Instr.storeAt t (.pointer (some ⟨g, 0, none⟩)) (.agg ds)).run Try.prog W = .ok () W3 ∧ CellsAt W3 g ds.toList ∧ Kp (fun k => k = g) W W3 ∧ W3.heap.size = W.heap.size :=
  ⟨_, run_storeAt_mid W g 0 t ds (h.there _ (by omega)) hi h1, h.put (by simpa using hl), Kp.setCells _ _ _ _, by
    have key : ∀ (l : List Value) (o : Nat) (W : World), (W.setCells g o l).heap.size = W.heap.size := fun l => by
      induction l with
      | nil => intro o W; rfl
      | cons a r ih => intro o W; rw [World.setCells, ih]; simp [World.setCell]
    exact key _ _ _⟩
set_option maxHeartbeats 1600000 in
theorem good1_c {w : World} {v : Value} {xs : List UInt8} (h : RdB w v xs) (hl : xs.length ≤ 100000000000) : Calls Try.prog 92 #[v] w fun e w' => e = .returned (.bool (two xs).2.2) ∧ KpN w w' := by
  have hC := prev_c h hl
  unfold Two2P at hC
  obtain ⟨a, b, q, hab⟩ : ∃ a b q, two xs = (a, b, q) := ⟨_, _, _, rfl⟩
  rw [hab] at hC ⊢
  clear hab
  go_enter Try.func92, Try.ntmps92
  go_wp2_with fail
  refine hC.mono ?_
  rintro e w1 ⟨rfl, k1⟩
  go_wp2_with fail
  go_ret
  exact ⟨rfl, k1.alloc _⟩
set_option maxHeartbeats 1600000 in
theorem good2_c {w : World} {v : Value} {xs : List UInt8} (h : RdB w v xs) (hl : xs.length ≤ 100000000000) : Calls Try.prog 94 #[v] w fun e w' => e = .returned (.bool (one xs).2) ∧ KpN w w' := by
  have hC := readAge_c h hl
  obtain ⟨a, q, hab⟩ : ∃ a q, one xs = (a, q) := ⟨_, _, rfl⟩
  rw [hab] at hC ⊢
  clear hab
  go_enter Try.func94, Try.ntmps94
  go_wp2_with fail
  refine hC.mono ?_
  rintro e w1 ⟨rfl, k1⟩
  go_wp2_with fail
  go_ret
  exact ⟨rfl, k1⟩
set_option maxHeartbeats 1600000 in
theorem good3_c {w : World} {v : Value} {xs : List UInt8} (h : RdB w v xs) (hl : xs.length ≤ 100000000000) : Calls Try.prog 95 #[v] w fun e w' => e = .returned (.bool (hopB xs)) ∧ KpN w w' := by
  have hC := hop_c h hl
  obtain ⟨a, b, q, hab⟩ : ∃ a b q, two xs = (a, b, q) := ⟨_, _, _, rfl⟩
  obtain ⟨r, hr⟩ : ∃ r, hopB xs = r := ⟨_, rfl⟩
  rw [hab, hr] at hC
  rw [hr]
  clear hab hr
  go_enter Try.func95, Try.ntmps95
  go_wp2_with fail
  refine hC.mono ?_
  rintro e w1 ⟨rfl, k1⟩
  go_wp2_with fail
  go_ret
  exact ⟨rfl, k1.alloc _⟩
theorem kindV_one (k : Nat) : (kindV k).oneCell' = true := by
  unfold kindV
  split
  · rfl
  · split
    · rfl
    · split <;> rfl
theorem known_no {k : Nat} (h : known k = false) : k ≠ 6 ∧ k ≠ 7 ∧ k ≠ 10 := by
  unfold known at h
  simp only [Bool.or_eq_false_iff, decide_eq_false_iff_not] at h
  omega
theorem known_yes {k : Nat} (h : known k = true) : k = 6 ∨ k = 7 ∨ k = 10 := by
  unfold known at h
  simp only [Bool.or_eq_true, decide_eq_true_eq] at h
  omega
theorem holds_no {k : Nat} (h : known k = false) (xs : List UInt8) : holds k xs = true := by
  have := known_no h
  unfold holds
  rw [if_neg this.1, if_neg this.2.1, if_neg this.2.2]
abbrev blkV (x : Blk) (v : Value) : Value := .agg #[n64 x.ty, n64 x.nu, n64 x.fl, v]
set_option maxHeartbeats 6400000 in
theorem tells_c {w : World} {x : Blk} {v : Value} (h : RdB w v x.da) (hl : x.da.length ≤ 100000000000) (h1 : U64 x.ty) : Calls Try.prog 78 #[blkV x v] w fun e w' => e = .returned (.bool (tellsB x)) ∧ KpN w w' := by
  obtain ⟨t, n, f, da⟩ := x
  dsimp only at h hl h1 ⊢
  obtain ⟨A, c, rfl, -⟩ := h.form
  obtain ⟨L, hL⟩ : ∃ L, da.length = L := ⟨_, rfl⟩
  obtain ⟨w1, hw1⟩ : ∃ w1, w.alloc (.cells #[n64 t, n64 n, n64 f, .slice A da.length c] 37) = w1 := ⟨_, rfl⟩
  have k1 : KpN w w1 := by rw [← hw1]; exact (Kp.refl _ w).alloc _
  have hB : CellsAt w1 w.heap.size [n64 t, n64 n, n64 f, .slice A da.length c] := by rw [← hw1]; exact CellsAt.new w [n64 t, n64 n, n64 f, .slice A da.length c] 37
  have hz1 : w1.heap.size = w.heap.size + 1 := by rw [← hw1]; simp
  rw [hL] at h hw1 hB ⊢
  have b0 := hB.at_ 0 rfl
  have hK := kinds_c w1 t h1
  have HH := Lib.hid (And.intro hw1 (And.intro h (And.intro k1 (And.intro hB hz1))))
  have HL := Lib.hid (And.intro hL hl)
  obtain ⟨r, hr⟩ : ∃ r, tellsB ⟨t, n, f, da⟩ = r := ⟨_, rfl⟩
  rw [hr]
  have HR := Lib.hid (hr.symm.trans (by unfold tellsB; rfl : tellsB ⟨t, n, f, da⟩ = (decide (da.length ≤ 64) && holds t da)))
  have hLb : L ≤ 100000000000 := by omega
  clear hw1 h k1 hB hz1 hL hl hr
  go_enter Try.func78, Try.ntmps78
  go_wp2_with ((with_reducible show wpList _ _ _ _ _ (World.alloc w _)); rw [HH.out.1])
  refine hK.mono ?_
  rintro e w2 ⟨rfl, k2⟩
  clear hK
  obtain ⟨w3, hw3⟩ : ∃ w3, w2.alloc (.cells #[.nilFunc] 132) = w3 := ⟨_, rfl⟩
  have hX : CellsAt w3 w2.heap.size [.nilFunc] := by rw [← hw3]; exact CellsAt.new w2 [.nilFunc] 132
  have hz3 : w3.heap.size = w2.heap.size + 1 := by rw [← hw3]; simp
  have k3 : KpN w2 w3 := by rw [← hw3]; exact (Kp.refl _ w2).alloc _
  obtain ⟨w4, hst, hX4, k4, hz4⟩ := box_store hX 132 #[kindV t] rfl (by kernel_rfl) (by simp [kindV_one])
  have k24 : KpN w2 w4 := k3.fresh k4 (fun i e => by omega)
  have kk := HH.out.2.2.1.thenN (k2.thenN k24)
  have hB4 := HH.out.2.2.2.1.keep (by have := HH.out.2.2.2.2; omega) (k2.thenN k24) (fun x => x)
  have c0 := hB4.at_ 3 rfl
  have x0 := hX4.at_ 0 rfl
  have hrd := HH.out.2.1.keepN kk
  have HS := Lib.hid (And.intro hw3 (And.intro hst (And.intro kk hrd)))
  clear hw3 hX hz3 k3 hst hX4 k4 k24 kk hB4 hrd b0
  by_cases h64 : L ≤ 64
  · have h64' : (L : Int) ≤ 64 := by omega
    rcases hkn : known t with _ | _
    · have hr : r = true := by rw [HR.out, holds_no hkn, HL.out.1]; simp [h64]
      have HRR := Lib.hid hr
      clear hr h64 hkn
      go_wp2_with ((with_reducible show wpList _ _ _ (Oper.mk none (Op.store 132 _ _) _ _ _ _ :: _) _ _); rw [HS.out.1]; refine wpl_skip rfl (run_store_op HS.out.2.1 rfl rfl) ?_)
      go_ret
      exact ⟨by rw [HRR.out]; rfl, HS.out.2.2.1⟩
    · have hh := known_yes hkn
      have hr : r = holds t da := by rw [HR.out, HL.out.1]; simp [h64]
      have HRR := Lib.hid hr
      clear hr h64 hkn
      rcases hh with rfl | rfl | rfl
      · rw [show kindV 6 = .func (.func 92) #[] #[] from rfl] at x0 HS ⊢
        go_wp2_with (first
          | ((with_reducible show wpList _ _ _ (Oper.mk none (Op.store 132 _ _) _ _ _ _ :: _) _ _); rw [HS.out.1]; refine wpl_skip rfl (run_store_op HS.out.2.1 rfl rfl) ?_)
          | fail)
        refine (good1_c HS.out.2.2.2 (by rw [HL.out.1]; omega)).mono ?_
        rintro e w5 ⟨rfl, k5⟩
        go_wp2
        go_ret
        exact ⟨by rw [HRR.out]; rfl, HS.out.2.2.1.thenN k5⟩
      · rw [show kindV 7 = .func (.func 94) #[] #[] from rfl] at x0 HS ⊢
        go_wp2_with (first
          | ((with_reducible show wpList _ _ _ (Oper.mk none (Op.store 132 _ _) _ _ _ _ :: _) _ _); rw [HS.out.1]; refine wpl_skip rfl (run_store_op HS.out.2.1 rfl rfl) ?_)
          | fail)
        refine (good2_c HS.out.2.2.2 (by rw [HL.out.1]; omega)).mono ?_
        rintro e w5 ⟨rfl, k5⟩
        go_wp2
        go_ret
        exact ⟨by rw [HRR.out]; rfl, HS.out.2.2.1.thenN k5⟩
      · rw [show kindV 10 = .func (.func 95) #[] #[] from rfl] at x0 HS ⊢
        go_wp2_with (first
          | ((with_reducible show wpList _ _ _ (Oper.mk none (Op.store 132 _ _) _ _ _ _ :: _) _ _); rw [HS.out.1]; refine wpl_skip rfl (run_store_op HS.out.2.1 rfl rfl) ?_)
          | fail)
        refine (good3_c HS.out.2.2.2 (by rw [HL.out.1]; omega)).mono ?_
        rintro e w5 ⟨rfl, k5⟩
        go_wp2
        go_ret
        exact ⟨by rw [HRR.out]; rfl, HS.out.2.2.1.thenN k5⟩
  · have h64' : decide ((L : Int) ≤ 64) = false := by simp; omega
    have hr : r = false := by rw [HR.out, HL.out.1]; simp [h64]
    have HRR := Lib.hid hr
    clear hr h64
    go_wp2_with ((with_reducible show wpList _ _ _ (Oper.mk none (Op.store 132 _ _) _ _ _ _ :: _) _ _); rw [HS.out.1]; refine wpl_skip rfl (run_store_op HS.out.2.1 rfl rfl) ?_)
    go_ret
    exact ⟨by rw [HRR.out]; rfl, HS.out.2.2.1⟩
def eidB (a b : Nat) : Bool := decide (a ≤ 281474976710655) && decide (b ≤ 281474976710655)
set_option maxHeartbeats 1600000 in
theorem eid_c (w : World) (a b : Nat) : Calls Try.prog 83 #[.agg #[n64 a, n64 b]] w fun e w' => e = .returned (.bool (eidB a b)) ∧ KpN w w' := by
  obtain ⟨r, hr⟩ : ∃ r, eidB a b = r := ⟨_, rfl⟩
  rw [hr]
  have HR := Lib.hid (hr.symm.trans (by unfold eidB; rfl : eidB a b = (decide (a ≤ 281474976710655) && decide (b ≤ 281474976710655))))
  have kl := (Kp.refl (fun _ => False) w).alloc (.cells #[n64 a, n64 b] 31)
  have HK := Lib.hid kl
  clear hr kl
  go_enter Try.func83, Try.ntmps83
  by_cases ha : a ≤ 281474976710655
  · have ha' : (a : Int) ≤ 281474976710655 := by omega
    by_cases hb : b ≤ 281474976710655
    · have hb' : (b : Int) ≤ 281474976710655 := by omega
      have HRR := Lib.hid (show r = true by rw [HR.out]; simp [ha, hb])
      clear ha hb
      go_wp2
      go_ret
      exact ⟨by rw [HRR.out]; rfl, HK.out⟩
    · have hb' : decide ((b : Int) ≤ 281474976710655) = false := by simp; omega
      have HRR := Lib.hid (show r = false by rw [HR.out]; simp [hb])
      clear ha hb
      go_wp2
      go_ret
      exact ⟨by rw [HRR.out]; rfl, HK.out⟩
  · have ha' : decide ((a : Int) ≤ 281474976710655) = false := by simp; omega
    have HRR := Lib.hid (show r = false by rw [HR.out]; simp [ha])
    clear ha
    go_wp2
    go_ret
    exact ⟨by rw [HRR.out]; rfl, HK.out⟩
end Go.Proofs.Yteokkpmndfekoaa
