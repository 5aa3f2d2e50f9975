/- bundle.readPrevious, readHop, kinds. -/
import Derived.Test.YteokkpmndfekoaaBU
namespace Go.Proofs.Yteokkpmndfekoaa
open Go Go.RowKit Go.ChangeShapes Go.WideShapes Go.ChangeAt
set_option maxRecDepth 100000

set_option maxHeartbeats 3200000 in
theorem prev_c {w : World} {v : Value} {xs : List UInt8} (h : RdB w v xs) (hl : xs.length ≤ 100000000000) : Calls Try.prog 93 #[v] w (Two2P xs w) := by
  have k0 := (Kp.refl (fun _ => False) w).alloc (.cells #[.int .u64 0, .int .u64 0] 149)
  have hN := numbers_two (h.keepN k0) hl
  have hz : (w.alloc (.cells #[.int .u64 0, .int .u64 0] 149)).heap.size = w.heap.size + 1 := by simp
  have hB := CellsAt.new w [.int .u64 0, .int .u64 0] 149
  obtain ⟨a, b, q, hab⟩ : ∃ a b q, two xs = (a, b, q) := ⟨_, _, _, rfl⟩
  unfold Two2P
  rw [hab] at hN ⊢
  have HB := Lib.hid (And.intro hB (And.intro hz k0))
  clear hab hB hz k0
  go_enter Try.func93, Try.ntmps93
  go_wp2_with fail
  refine hN.mono ?_
  rintro e w1 ⟨g, c, rfl, hg, ⟨c0, c1⟩, k1⟩
  have hB1 := HB.out.1.keep (by have := HB.out.2.1; omega) k1 (fun x => x)
  have b0 := hB1.at_ 0 rfl
  have b1 := hB1.at_ 1 rfl
  have f0 := hB1.2 0
  have f1 := hB1.2 1
  clear hN
  go_wp2_with fail
  go_region
  have k3 := ((((HB.out.2.2.thenN k1).setCell (p := ⟨w.heap.size, 0, none⟩) (.inr (Nat.le_refl _)) (n64 a)).setCell (p := ⟨w.heap.size, 1, none⟩) (.inr (Nat.le_refl _)) (n64 b))).drew
  have hB4 := ((hB1.set 0 (n64 a) (by simp)).set 1 (n64 b) (by simp)).keep (by simp; have := HB.out.2.1; have := k1.size; omega) (Kp.refl (fun _ => False) _).drew (fun x => x)
  have HF := Lib.hid (And.intro hB4 k3)
  clear hB4 k3 hB1 b0 b1 f0 f1 c0 c1
  go_wp2_with fail
  (try simp only [Exit.inBlock, Exit.then])
  refine bodyPost_ret (results_cell_tmp_at rfl _ _ rfl HF.out.1.1 Try.underlying149 rfl (by kernel_rfl)) rfl ?_
  exact ⟨rfl, HF.out.2⟩
set_option maxHeartbeats 3200000 in
theorem hop_c {w : World} {v : Value} {xs : List UInt8} (h : RdB w v xs) (hl : xs.length ≤ 100000000000) : Calls Try.prog 65 #[v] w fun e w' => e = .returned (.tuple #[.agg #[n64 (two xs).1, n64 (two xs).2.1], .bool (hopB xs)]) ∧ KpN w w' := by
  have k0 := (Kp.refl (fun _ => False) w).alloc (.cells #[.int .u64 0, .int .u64 0] 91)
  have hN := numbers_two (h.keepN k0) hl
  have hz : (w.alloc (.cells #[.int .u64 0, .int .u64 0] 91)).heap.size = w.heap.size + 1 := by simp
  have hB := CellsAt.new w [.int .u64 0, .int .u64 0] 91
  unfold hopB
  obtain ⟨a, b, q, hab⟩ : ∃ a b q, two xs = (a, b, q) := ⟨_, _, _, rfl⟩
  rw [hab] at hN ⊢
  dsimp only
  have HB := Lib.hid (And.intro hB (And.intro hz k0))
  have hQ : ∃ r, (q && decide (1 ≤ a) && decide (a ≤ 255) && decide (b ≤ a)) = r := ⟨_, rfl⟩
  obtain ⟨r, hr⟩ := hQ
  rw [hr]
  have HQ := Lib.hid hr
  clear hab hB hz k0 hr
  go_enter Try.func65, Try.ntmps65
  go_wp2_with fail
  refine hN.mono ?_
  rintro e w1 ⟨g, c, rfl, hg, ⟨c0, c1⟩, k1⟩
  clear hN
  have hB1 := HB.out.1.keep (by have := HB.out.2.1; omega) k1 (fun x => x)
  have hz1 := k1.size
  have kw1 := HB.out.2.2.thenN k1
  have HB1 := Lib.hid (And.intro hB1 kw1)
  clear hB1 kw1
  go_wp2_with fail
  go_region
  obtain ⟨w2, hw2⟩ : ∃ w2, ((w1.alloc (.cells #[n64 a, n64 b] 91)).drew) = w2 := ⟨_, rfl⟩
  have kn : KpN w1 w2 := by rw [← hw2]; exact ((Kp.refl _ w1).alloc _).drew
  have hX : CellsAt w2 w1.heap.size [n64 a, n64 b] := by
    rw [← hw2]
    exact (CellsAt.new w1 [n64 a, n64 b] 91).keep (by simp) (Kp.refl (fun _ => False) _).drew (fun x => x)
  have hB2 := HB1.out.1.keep (by have := HB.out.2.1; omega) kn (fun x => x)
  have x0 := hX.at_ 0 rfl
  have x1 := hX.at_ 1 rfl
  have b0 := hB2.at_ 0 rfl
  have b1 := hB2.at_ 1 rfl
  have f0 := hB2.2 0
  have f1 := hB2.2 1
  have k3 := ((((HB1.out.2.thenN kn).setCell (p := ⟨w.heap.size, 0, none⟩) (.inr (Nat.le_refl _)) (n64 a)).setCell (p := ⟨w.heap.size, 1, none⟩) (.inr (Nat.le_refl _)) (n64 b))).drew
  have hB4 := (((hB2.set 0 (n64 a) (by simp)).set 1 (n64 b) (by simp)).keep (by simp; have := HB.out.2.1; have := kn.size; omega) (Kp.refl (fun _ => False) _).drew (fun x => x))
  have hne : w1.heap.size ≠ w.heap.size := by have := HB.out.2.1; omega
  have hne2 : w.heap.size ≠ w1.heap.size := fun e => hne e.symm
  have HF := Lib.hid (And.intro hB4 k3)
  rw [show (w1.alloc (.cells #[.int .u64 (a : Int), .int .u64 (b : Int)] 91)).drew = w2 from hw2]
  clear hB4 k3 hB2 hX kn hw2 c0 c1
  rcases q with _ | _
  · have hr0 : r = false := by rw [← HQ.out]; simp
    have HR := Lib.hid hr0
    clear hr0
    go_wp2_with fail
    go_region
    go_wp2_with fail
    (try simp only [Exit.inBlock, Exit.then])
    refine bodyPost_ret (results_cell_tmp_at rfl _ _ rfl HF.out.1.1 Try.underlying91 rfl (by kernel_rfl)) rfl ?_
    exact ⟨by rw [HR.out]; rfl, HF.out.2⟩
  · by_cases h1 : 1 ≤ a
    · by_cases h2 : a ≤ 255
      · by_cases h3 : b ≤ a
        · have hr0 : r = true := by rw [← HQ.out]; simp [h1, h2, h3]
          have HR := Lib.hid hr0
          have h1' : (1 : Int) ≤ (a : Int) := by omega
          have h2' : (a : Int) ≤ 255 := by omega
          have h3' : (b : Int) ≤ (a : Int) := by omega
          clear hr0 h1 h2 h3
          go_wp2_with fail
          go_region
          go_wp2_with fail
          (try simp only [Exit.inBlock, Exit.then])
          refine bodyPost_ret (results_cell_tmp_at rfl _ _ rfl HF.out.1.1 Try.underlying91 rfl (by kernel_rfl)) rfl ?_
          exact ⟨by rw [HR.out]; rfl, HF.out.2⟩
        · have hr0 : r = false := by rw [← HQ.out]; simp [h3]
          have HR := Lib.hid hr0
          have h1' : (1 : Int) ≤ (a : Int) := by omega
          have h2' : (a : Int) ≤ 255 := by omega
          have h3' : decide (b ≤ a) = false := by simp; omega
          clear hr0 h1 h2 h3
          go_wp2_with fail
          go_region
          go_wp2_with fail
          (try simp only [Exit.inBlock, Exit.then])
          refine bodyPost_ret (results_cell_tmp_at rfl _ _ rfl HF.out.1.1 Try.underlying91 rfl (by kernel_rfl)) rfl ?_
          exact ⟨by rw [HR.out]; rfl, HF.out.2⟩
      · have hr0 : r = false := by rw [← HQ.out]; simp [h2]
        have HR := Lib.hid hr0
        have h1' : (1 : Int) ≤ (a : Int) := by omega
        have h2' : decide ((a : Int) ≤ 255) = false := by simp; omega
        clear hr0 h1 h2
        go_wp2_with fail
        go_region
        go_wp2_with fail
        (try simp only [Exit.inBlock, Exit.then])
        refine bodyPost_ret (results_cell_tmp_at rfl _ _ rfl HF.out.1.1 Try.underlying91 rfl (by kernel_rfl)) rfl ?_
        exact ⟨by rw [HR.out]; rfl, HF.out.2⟩
    · have hr0 : r = false := by rw [← HQ.out]; simp [h1]
      have HR := Lib.hid hr0
      obtain rfl : a = 0 := by omega
      clear hr0 h1
      go_wp2_with fail
      go_region
      go_wp2_with fail
      (try simp only [Exit.inBlock, Exit.then])
      refine bodyPost_ret (results_cell_tmp_at rfl _ _ rfl HF.out.1.1 Try.underlying91 rfl (by kernel_rfl)) rfl ?_
      exact ⟨by rw [HR.out]; rfl, HF.out.2⟩
/-- the functions of the table -/
def kF1 : Value := .func (.func 92) #[] #[]
def kF2 : Value := .func (.func 94) #[] #[]
def kF3 : Value := .func (.func 95) #[] #[]
def kindV (k : Nat) : Value := if k = 6 then kF1 else if k = 7 then kF2 else if k = 10 then kF3 else .nilFunc
def tw (q : Nat) : Nat := if q = 0 then 6 else if q = 1 then 7 else 10
theorem tw_known {k q : Nat} (h : tw q = k) : known k = true := by
  unfold tw at h
  unfold known
  subst h
  split
  · rfl
  · split <;> rfl
theorem tw_none {k : Nat} (h : ∀ j, j < 3 → tw j ≠ k) : known k = false ∧ kindV k = .nilFunc := by
  have h0 := h 0 (by omega)
  have h1 := h 1 (by omega)
  have h2 := h 2 (by omega)
  simp only [tw] at h0 h1 h2
  simp at h0 h1 h2
  unfold known kindV
  rw [if_neg (by omega), if_neg (by omega), if_neg (by omega)]
  simp
  omega
theorem tw_fn (q : Nat) : ∃ f, kindV (tw q) = .func (.func f) #[] #[] := by
  unfold tw
  split
  · exact ⟨_, rfl⟩
  · split <;> exact ⟨_, rfl⟩
theorem tw_row (w : World) (g : Nat) (h : RowAt w ⟨g, 0, none⟩ [n64 6, kF1, n64 7, kF2, n64 10, kF3]) (q : Nat) (hq : q < 3) : w.cell? ⟨g, q * 2, none⟩ = some (n64 (tw q)) ∧ w.cell? ⟨g, q * 2 + 1, none⟩ = some (kindV (tw q)) := by
  have key : ∀ j v, [n64 6, kF1, n64 7, kF2, n64 10, kF3][j]? = some v → w.cell? ⟨g, j, none⟩ = some v := fun j v hj => by
    have := h j v hj
    rwa [add_plain'] at this
  rcases (show q = 0 ∨ q = 1 ∨ q = 2 by omega) with rfl | rfl | rfl
  · exact ⟨key 0 _ rfl, key 1 _ rfl⟩
  · exact ⟨key 2 _ rfl, key 3 _ rfl⟩
  · exact ⟨key 4 _ rfl, key 5 _ rfl⟩
set_option maxHeartbeats 3200000 in
theorem kinds_c (w : World) (k : Nat) (hk : U64 k) : Calls Try.prog 77 #[n64 k] w fun e w' => e = .returned (.tuple #[.agg #[kindV k], .bool (known k)]) ∧ KpN w w' := by
  obtain ⟨w0, hw0⟩ : ∃ w0, ((w.alloc (.cells #[.nilFunc] 132)).alloc (.cells #[.int .u64 6, kF1, .int .u64 7, kF2, .int .u64 10, kF3] 152)) = w0 := ⟨_, rfl⟩
  have hz : w0.heap.size = w.heap.size + 2 := by rw [← hw0]; simp
  have hB : CellsAt w0 w.heap.size [.nilFunc] := by
    rw [← hw0]
    exact (CellsAt.new w [.nilFunc] 132).keep (by simp) ((Kp.refl (fun _ => False) _).alloc _) (fun x => x)
  have hT : CellsAt w0 (w.heap.size + 1) [n64 6, kF1, n64 7, kF2, n64 10, kF3] := by
    rw [← hw0]
    have := CellsAt.new (w.alloc (.cells #[.nilFunc] 132)) [n64 6, kF1, n64 7, kF2, n64 10, kF3] 152
    rwa [show (w.alloc (.cells #[.nilFunc] 132)).heap.size = w.heap.size + 1 by simp] at this
  have k0 : KpN w w0 := by rw [← hw0]; exact ((Kp.refl _ w).alloc _).alloc _
  have HB := Lib.hid (And.intro hB (And.intro hT (And.intro hz k0)))
  have HW := Lib.hid hw0
  clear hw0 hz hB hT k0
  go_enter Try.func77, Try.ntmps77
  go_wp2_with fail
  rw [show (((w.alloc (.cells #[.nilFunc] 132)).alloc (.cells #[.int .u64 6, .func (.func 92) #[] #[], .int .u64 7, .func (.func 94) #[] #[], .int .u64 10, .func (.func 95) #[] #[]] 152))) = w0 from HW.out]
  go_loopw [16] (fun i wr => ∃ q : Nat, q ≤ 3 ∧ i = .int .i64 q ∧ (∀ j, j < q → tw j ≠ k) ∧ KpN w0 wr) (fun i _ => 3 - (intOf i).toNat)
  case atStart => exact ⟨0, by omega, rfl, fun j hj => by omega, Kp.refl _ _⟩
  case round =>
    obtain ⟨q, hq, rfl, hno, kr⟩ := hrel
    have HN := Lib.hid hno
    clear hno
    have hB1 := HB.out.1.keep (by have := HB.out.2.2.1; omega) kr (fun x => x)
    have b0 := hB1.at_ 0 rfl
    have f0 := hB1.2 0
    by_cases hlt : q < 3
    · obtain ⟨c0, c1⟩ := tw_row wr (w.heap.size + 1) (HB.out.2.1.keep (by have := HB.out.2.2.1; omega) kr (fun x => x)).1 q hlt
      have hkn := fun h : tw q = k => tw_known h
      obtain ⟨t, ht⟩ : ∃ t, tw q = t := ⟨_, rfl⟩
      obtain ⟨F, hF⟩ := tw_fn q
      rw [hF] at c1
      rw [ht] at c0 hkn hF
      have HT := Lib.hid (And.intro ht hF)
      have hX := CellsAt.new wr [.int .u64 0, .nilFunc] 152
      obtain ⟨W2, hW2⟩ : ∃ W2, wr.alloc (.cells #[.int .u64 0, .nilFunc] 152) = W2 := ⟨_, rfl⟩
      rw [hW2] at hX
      have k2 : KpN wr W2 := by rw [← hW2]; exact (Kp.refl _ wr).alloc _
      have hst := run_storeAt_mid (P := Try.prog) W2 wr.heap.size 0 152 #[n64 t, .func (.func F) #[] #[]] (hX.there _ (Nat.le_refl _)) (by kernel_rfl) (by kernel_rfl)
      have k3 := Kp.setCells wr.heap.size [n64 t, .func (.func F) #[] #[]] 0 W2
      have hX3 := hX.put (ds := [n64 t, .func (.func F) #[] #[]]) rfl
      obtain ⟨W3, hW3⟩ : ∃ W3, W2.setCells wr.heap.size 0 [n64 t, .func (.func F) #[] #[]] = W3 := ⟨_, rfl⟩
      rw [hW3] at hX3 k3
      have k03 : KpN wr W3 := k2.fresh k3 (fun i e => by omega)
      have x0 := hX3.at_ 0 rfl
      have x1 := hX3.at_ 1 rfl
      have HW := Lib.hid (And.intro hW2 (And.intro hst hW3))
      have hB3 := hB1.keep (by have := HB.out.2.2.1; have := kr.size; omega) k03 (fun x => x)
      have hst4 := run_storeAt_mid (P := Try.prog) W3 w.heap.size 0 132 #[.func (.func F) #[] #[]] (hB3.there _ (Nat.le_refl _)) (by kernel_rfl) (by kernel_rfl)
      have hB4 := hB3.put (ds := [.func (.func F) #[] #[]]) rfl
      have k4 := Kp.setCells w.heap.size [.func (.func F) #[] #[]] 0 W3
      obtain ⟨W4, hW4⟩ : ∃ W4, W3.setCells w.heap.size 0 [.func (.func F) #[] #[]] = W4 := ⟨_, rfl⟩
      rw [hW4] at hB4 k4
      have k24 : KpN w W4 := (HB.out.2.2.2.thenN (kr.thenN k03)).fresh k4 (fun i e => by omega)
      have H4 := Lib.hid (And.intro hst4 (And.intro hW4 (And.intro hB4 k24)))
      have H3 := Lib.hid k03
      clear ht hF hX hW2 k2 hst k3 hX3 hW3 k03 hB3 hst4 hB4 k4 hW4 k24
      by_cases htk : t = k
      · subst htk
        have hk1 := hkn rfl
        clear hkn b0 f0 hB1
        go_wp2_with (first
          | ((with_reducible show wpList _ _ _ (Oper.mk none (Op.store 152 _ _) _ _ _ _ :: _) _ _); rw [HW.out.1]; refine wpl_skip rfl (run_store_op HW.out.2.1 rfl rfl) ?_; rw [HW.out.2.2])
          | ((with_reducible show wpList _ _ _ (Oper.mk none (Op.store 132 _ _) _ _ _ _ :: _) _ _); refine wpl_skip rfl (run_store_op H4.out.1 rfl rfl) ?_; rw [H4.out.2.1])
          | fail)
        (try simp only [Exit.inBlock, Exit.then])
        refine bodyPost_ret (results_cell_tmp_at rfl _ _ rfl H4.out.2.2.1.1 Try.underlying132 rfl (by kernel_rfl)) rfl ?_
        exact ⟨by rw [HT.out.2]; rfl, H4.out.2.2.2⟩
      · have htk2 : ((t : Int) == (k : Int)) = false := by simp; omega
        clear hkn b0 f0 hB1
        go_wp2_with (first
          | ((with_reducible show wpList _ _ _ (Oper.mk none (Op.store 152 _ _) _ _ _ _ :: _) _ _); rw [HW.out.1]; refine wpl_skip rfl (run_store_op HW.out.2.1 rfl rfl) ?_; rw [HW.out.2.2])
          | ((with_reducible show wpList _ _ _ (Oper.mk none (Op.store 132 _ _) _ _ _ _ :: _) _ _); refine wpl_skip rfl (run_store_op H4.out.1 rfl rfl) ?_; rw [H4.out.2.1])
          | fail)
        go_roundw
        case rel =>
          refine ⟨q + 1, by omega, by go_num, fun j hj => ?_, kr.thenN H3.out⟩
          by_cases hjq : j = q
          · subst hjq; rw [HT.out.1]; exact htk
          · exact HN.out j (by omega)
        case measure => exact meas_up hlt
    · obtain rfl : q = 3 := by omega
      obtain ⟨hk0, hv0⟩ := tw_none HN.out
      have hst4 := run_storeAt_mid (P := Try.prog) wr w.heap.size 0 132 #[.nilFunc] (hB1.there _ (Nat.le_refl _)) (by kernel_rfl) (by kernel_rfl)
      have hB4 := hB1.put (ds := [.nilFunc]) rfl
      have k4 := Kp.setCells w.heap.size [.nilFunc] 0 wr
      have k24 : KpN w (wr.setCells w.heap.size 0 [.nilFunc]) := (HB.out.2.2.2.thenN kr).fresh k4 (fun i e => by omega)
      have H4 := Lib.hid (And.intro hst4 (And.intro hB4 k24))
      have HK := Lib.hid (And.intro hk0 hv0)
      clear hst4 hB4 k4 k24 hk0 hv0 b0 f0 hB1
      go_wp2_with ((with_reducible show wpList _ _ _ (Oper.mk none (Op.store 132 _ _) _ _ _ _ :: _) _ _); refine wpl_skip rfl (run_store_op H4.out.1 rfl rfl) ?_)
      (try simp only [Exit.inBlock, Exit.then])
      refine bodyPost_ret (results_cell_tmp_at rfl _ _ rfl H4.out.2.1.1 Try.underlying132 rfl (by kernel_rfl)) rfl ?_
      exact ⟨by rw [HK.out.1, HK.out.2]; rfl, H4.out.2.2⟩
end Go.Proofs.Yteokkpmndfekoaa
