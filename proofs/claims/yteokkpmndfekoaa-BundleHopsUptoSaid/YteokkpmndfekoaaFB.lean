/- the document's headed. -/
import Derived.Test.YteokkpmndfekoaaFA
namespace Go.Proofs.Yteokkpmndfekoaa
open Go Go.RowKit Go.ChangeShapes Go.WideShapes Go.ChangeAt
set_option maxRecDepth 100000

theorem headed_1 {t n f : Nat} {l : List Blk} (h : tyBad t l = true) : headed t n f l = 1 := by unfold headed; rw [if_pos h]
theorem headed_2 {t n f : Nat} {l : List Blk} (h1 : tyBad t l = false) (h : nuBad n l = true) : headed t n f l = 2 := by unfold headed; rw [if_neg (by rw [h1]; simp), if_pos h]
theorem headed_3 {t n f : Nat} {l : List Blk} (h1 : tyBad t l = false) (h : nuBad n l = false) (h3 : 255 < f) : headed t n f l = 3 := by unfold headed; rw [if_neg (by rw [h1]; simp), if_neg (by rw [h]; simp), if_pos h3]
theorem headed_0 {t n f : Nat} {l : List Blk} (h1 : tyBad t l = false) (h : nuBad n l = false) (h3 : f ≤ 255) : headed t n f l = 0 := by unfold headed; rw [if_neg (by rw [h1]; simp), if_neg (by rw [h]; simp), if_neg (by omega)]
set_option maxHeartbeats 6400000 in
theorem headed_c {w : World} {t n f : Nat} {v bv : Value} {da : List UInt8} {l : List Blk} (h : RdB w v da) (hb : SlAt w 4 BlkAt bv l) (hl : l.length ≤ 10000000) : Calls Try.prog 81 #[.agg #[n64 t, n64 n, n64 f, v], bv] w fun e w' => e = .returned (.int .i64 (headed t n f l : Nat)) ∧ KpN w w' := by
  obtain ⟨A, c, rfl, -⟩ := h.form
  obtain ⟨bA, bc, rfl, hbc⟩ := hb.form
  obtain ⟨L, hL⟩ : ∃ L, da.length = L := ⟨_, rfl⟩
  obtain ⟨N, hN⟩ : ∃ N, l.length = N := ⟨_, rfl⟩
  obtain ⟨w1, hw1⟩ : ∃ w1, w.alloc (.cells #[n64 t, n64 n, n64 f, .slice A da.length c] 40) = w1 := ⟨_, rfl⟩
  have k1 : KpN w w1 := by rw [← hw1]; exact (Kp.refl _ w).alloc _
  have hB : CellsAt w1 w.heap.size [n64 t, n64 n, n64 f, .slice A da.length c] := by rw [← hw1]; exact CellsAt.new w [n64 t, n64 n, n64 f, .slice A da.length c] 40
  have hz1 : w1.heap.size = w.heap.size + 1 := by rw [← hw1]; simp
  obtain ⟨r, hr⟩ : ∃ r, headed t n f l = r := ⟨_, rfl⟩
  have g1 := fun hh => hr.symm.trans (headed_1 (n := n) (f := f) (t := t) (l := l) hh)
  have g2 := fun h1 hh => hr.symm.trans (headed_2 (n := n) (f := f) (t := t) (l := l) h1 hh)
  have g3 := fun h1 hh h3 => hr.symm.trans (headed_3 (n := n) (f := f) (t := t) (l := l) h1 hh h3)
  have g0 := fun h1 hh h3 => hr.symm.trans (headed_0 (n := n) (f := f) (t := t) (l := l) h1 hh h3)
  rw [hr]
  rw [hL] at hw1 hB ⊢
  rw [hN] at hl hb hbc ⊢
  have b0 := hB.at_ 0 rfl
  have hkeep : ∀ W, KpN w1 W → CellsAt W w.heap.size [n64 t, n64 n, n64 f, .slice A L c] := fun W k => hB.keep (by omega) k (fun x => x)
  have HH := Lib.hid (And.intro hw1 (And.intro k1 (And.intro hkeep hz1)))
  have HB := Lib.hid (And.intro hN hb)
  have HR := Lib.hid (And.intro g1 (And.intro g2 (And.intro g3 g0)))
  clear hw1 h k1 hB hz1 hL hr g1 g2 g3 g0 hb hN hkeep
  go_enter Try.func81, Try.ntmps81
  by_cases t1 : t < 2
  · have t1' : (t : Int) < 2 := by omega
    have HRR := Lib.hid (HR.out.1 (tyBad_small (.inl t1)))
    clear t1
    go_wp2_with ((with_reducible show wpList _ _ _ _ _ (World.alloc w _)); rw [HH.out.1])
    go_ret
    exact ⟨by rw [HRR.out]; rfl, HH.out.2.1⟩
  have t1' : decide ((t : Int) < 2) = false := by simp; omega
  by_cases t2 : 255 < t
  · have t2' : (255 : Int) < (t : Int) := by omega
    have HRR := Lib.hid (HR.out.1 (tyBad_small (.inr t2)))
    clear t1 t2
    go_wp2_with ((with_reducible show wpList _ _ _ _ _ (World.alloc w _)); rw [HH.out.1])
    go_ret
    exact ⟨by rw [HRR.out]; rfl, HH.out.2.1⟩
  have t2' : decide ((255 : Int) < (t : Int)) = false := by simp; omega
  have HT := Lib.hid (show 2 ≤ t ∧ t ≤ 255 by omega)
  clear t1 t2
  go_wp2_with ((with_reducible show wpList _ _ _ _ _ (World.alloc w _)); rw [HH.out.1])
  clear t1' t2' b0
  go_loopw [5] (fun i wr => ∃ q : Nat, q ≤ N ∧ i = .int .i64 q ∧ (∀ j (hj : j < l.length), j < q → known t = true → l[j].ty ≠ t) ∧ KpN w1 wr) (fun i _ => N - (intOf i).toNat)
  case atStart => exact ⟨0, Nat.zero_le _, rfl, fun j _ hj => by omega, Kp.refl _ _⟩
  case round =>
    obtain ⟨q, hq, rfl, hno, kr⟩ := hrel
    have HN := Lib.hid hno
    clear hno
    by_cases hlt : q < N
    · have hql : q < l.length := by rw [HB.out.1]; exact hlt
      obtain ⟨ad, cs, rfl, -, hrow0, ⟨⟨dw, rfl, hdw⟩, hxo⟩⟩ := HB.out.2.row q hql
      obtain ⟨y, hy⟩ : ∃ y, l[q] = y := ⟨_, rfl⟩
      have hgo : (known t = true → y.ty ≠ t) → ∀ j (hj : j < l.length), j < q + 1 → known t = true → l[j].ty ≠ t := fun e j hj hjq => by
        by_cases hje : j = q
        · subst hje; rw [hy]; exact e
        · exact HN.out j hj (by omega)
      have hd2 : known t = true → y.ty = t → r = 1 := fun ek e => HR.out.1 (tyBad_dup ek hql (by rw [hy]; exact e))
      rw [hy] at hrow0
      obtain ⟨yt, yn, yf, yd⟩ := y
      dsimp only at hrow0 hgo hd2
      have hrW : ∀ W, KpN wr W → RowAt W (ad.add (q * 4)) [n64 yt, n64 yn, n64 yf, dw] := fun W k => hrow0.keepN ((HH.out.2.1.thenN kr).thenN k)
      have hbW : ∀ W, KpN wr W → W.cell? ⟨w.heap.size, 0, none⟩ = some (n64 t) := fun W k => (HH.out.2.2.1 W (kr.thenN k)).at_ 0 rfl
      have HX := Lib.hid (And.intro hrW (And.intro hbW kr))
      have HG := Lib.hid (And.intro hgo hd2)
      have hK := fun W => rknown_c W t
      obtain ⟨kn, hkn⟩ : ∃ kn, known t = kn := ⟨_, rfl⟩
      rw [hkn] at hK HG
      have HKN := Lib.hid hkn
      have HK := Lib.hid hK
      clear hrow0 hdw hxo hy hgo hd2 hrW hbW kr hK hkn
      rcases kn with _ | _
      · go_wp2_with fail
        refine rg_begin 13 (fun _ => False) (by kernel_rfl) (fun w3 d3 => ?_)
        refine rg_take 0 (d := (some 21)) (v := .pointer (some ⟨w.heap.size, 0, none⟩)) (by decide) rfl rfl (by kernel_rfl) (by kernel_rfl) (by kernel_rfl) (fun _ _ _ h => h) rfl (fun W => by go_simp) ?_
        conv => arg 8; simp only [Act.put, List.setIfInBounds_toArray, List.set_cons_zero, List.set_cons_succ]
        refine rg_read 1 (d := (some 22)) (v := n64 t) (by decide) (by kernel_rfl) (by kernel_rfl) rfl rfl (by kernel_rfl) (by kernel_rfl) (by kernel_rfl) (fun _ _ _ h => h) rfl (fun W hW => by have hc := (fun W hW => HX.out.2.1 W (d3.thenN hW)) W hW; go_simp) ?_
        conv => arg 8; simp only [Act.put, List.setIfInBounds_toArray, List.set_cons_zero, List.set_cons_succ]
        refine rg_call 2 (d := (some 23)) (by kernel_rfl) (HK.out w3) rfl rfl (by kernel_rfl) rfl rfl ?_
        rintro e w4 ⟨rfl, rfl⟩
        refine ⟨_, rfl, Kp.refl _ _, ?_⟩
        conv => arg 8; simp only [Act.put, List.setIfInBounds_toArray, List.set_cons_zero, List.set_cons_succ]
        refine rg_take 3 (d := (some 24)) (v := .bool false) (by decide) rfl rfl (by kernel_rfl) (by kernel_rfl) (by kernel_rfl) (fun _ _ _ h => h) rfl (fun W => rfl) ?_
        conv => arg 8; simp only [Act.put, List.setIfInBounds_toArray, List.set_cons_zero, List.set_cons_succ]
        refine rg_skip 4 (d := (some 25)) (by decide) rfl rfl (by kernel_rfl) (by kernel_rfl) (by kernel_rfl) (fun _ _ _ h => h) rfl ?_
        conv => arg 8; simp only [Act.put, List.setIfInBounds_toArray, List.set_cons_zero, List.set_cons_succ]
        refine rg_skip 5 (d := (some 26)) (by decide) rfl rfl (by kernel_rfl) (by kernel_rfl) (by kernel_rfl) (fun _ _ _ h => h) rfl ?_
        conv => arg 8; simp only [Act.put, List.setIfInBounds_toArray, List.set_cons_zero, List.set_cons_succ]
        refine rg_skip 6 (d := (some 27)) (by decide) rfl rfl (by kernel_rfl) (by kernel_rfl) (by kernel_rfl) (fun _ _ _ h => h) rfl ?_
        conv => arg 8; simp only [Act.put, List.setIfInBounds_toArray, List.set_cons_zero, List.set_cons_succ]
        refine rg_skip 7 (d := (some 28)) (by decide) rfl rfl (by kernel_rfl) (by kernel_rfl) (by kernel_rfl) (fun _ _ _ h => h) rfl ?_
        conv => arg 8; simp only [Act.put, List.setIfInBounds_toArray, List.set_cons_zero, List.set_cons_succ]
        refine rg_skip 8 (d := (some 29)) (by decide) rfl rfl (by kernel_rfl) (by kernel_rfl) (by kernel_rfl) (fun _ _ _ h => h) rfl ?_
        conv => arg 8; simp only [Act.put, List.setIfInBounds_toArray, List.set_cons_zero, List.set_cons_succ]
        refine rg_skip 9 (d := (some 30)) (by decide) rfl rfl (by kernel_rfl) (by kernel_rfl) (by kernel_rfl) (fun _ _ _ h => h) rfl ?_
        conv => arg 8; simp only [Act.put, List.setIfInBounds_toArray, List.set_cons_zero, List.set_cons_succ]
        refine rg_skip 10 (d := (some 31)) (by decide) rfl rfl (by kernel_rfl) (by kernel_rfl) (by kernel_rfl) (fun _ _ _ h => h) rfl ?_
        conv => arg 8; simp only [Act.put, List.setIfInBounds_toArray, List.set_cons_zero, List.set_cons_succ]
        refine rg_skip 11 (d := (some 32)) (by decide) rfl rfl (by kernel_rfl) (by kernel_rfl) (by kernel_rfl) (fun _ _ _ h => h) rfl ?_
        conv => arg 8; simp only [Act.put, List.setIfInBounds_toArray, List.set_cons_zero, List.set_cons_succ]
        refine rg_take 12 (d := (some 33)) (v := .bool false) (by decide) rfl rfl (by kernel_rfl) (by kernel_rfl) (by kernel_rfl) (fun _ _ _ h => h) rfl (fun W => rfl) ?_
        conv => arg 8; simp only [Act.put, List.setIfInBounds_toArray, List.set_cons_zero, List.set_cons_succ]
        refine rg_done (by kernel_rfl) ?_
        have HF := Lib.hid (HX.out.2.2.thenN d3)
        go_wp2_with fail
        go_roundw
        case rel => exact ⟨q + 1, by omega, by go_num, HG.out.1 (fun e => by cases e) |> fun hh j hj hjq e => hh j hj hjq (by rw [HKN.out] at e; exact e), HF.out⟩
        case measure => exact meas_up hlt
      · by_cases e2 : yt = t
        · have HRR := Lib.hid (HG.out.2 rfl e2)
          have e2' : ((yt : Int) == (t : Int)) = true := by simp; omega
          clear e2
          go_wp2_with fail
          refine rg_begin 13 (fun _ => False) (by kernel_rfl) (fun w3 d3 => ?_)
          refine rg_take 0 (d := (some 21)) (v := .pointer (some ⟨w.heap.size, 0, none⟩)) (by decide) rfl rfl (by kernel_rfl) (by kernel_rfl) (by kernel_rfl) (fun _ _ _ h => h) rfl (fun W => by go_simp) ?_
          conv => arg 8; simp only [Act.put, List.setIfInBounds_toArray, List.set_cons_zero, List.set_cons_succ]
          refine rg_read 1 (d := (some 22)) (v := n64 t) (by decide) (by kernel_rfl) (by kernel_rfl) rfl rfl (by kernel_rfl) (by kernel_rfl) (by kernel_rfl) (fun _ _ _ h => h) rfl (fun W hW => by have hc := (fun W hW => HX.out.2.1 W (d3.thenN hW)) W hW; go_simp) ?_
          conv => arg 8; simp only [Act.put, List.setIfInBounds_toArray, List.set_cons_zero, List.set_cons_succ]
          refine rg_call 2 (d := (some 23)) (by kernel_rfl) (HK.out w3) rfl rfl (by kernel_rfl) rfl rfl ?_
          rintro e w4 ⟨rfl, rfl⟩
          refine ⟨_, rfl, Kp.refl _ _, ?_⟩
          conv => arg 8; simp only [Act.put, List.setIfInBounds_toArray, List.set_cons_zero, List.set_cons_succ]
          refine rg_take 3 (d := (some 24)) (v := .bool true) (by decide) rfl rfl (by kernel_rfl) (by kernel_rfl) (by kernel_rfl) (fun _ _ _ h => h) rfl (fun W => rfl) ?_
          conv => arg 8; simp only [Act.put, List.setIfInBounds_toArray, List.set_cons_zero, List.set_cons_succ]
          refine rg_take 4 (d := (some 25)) (v := .slice (some ad) N bc) (by decide) rfl rfl (by kernel_rfl) (by kernel_rfl) (by kernel_rfl) (fun _ _ _ h => h) rfl (fun W => rfl) ?_
          conv => arg 8; simp only [Act.put, List.setIfInBounds_toArray, List.set_cons_zero, List.set_cons_succ]
          refine rg_take 5 (d := (some 26)) (v := .int .i64 q) (by decide) rfl rfl (by kernel_rfl) (by kernel_rfl) (by kernel_rfl) (fun _ _ _ h => h) rfl (fun W => rfl) ?_
          conv => arg 8; simp only [Act.put, List.setIfInBounds_toArray, List.set_cons_zero, List.set_cons_succ]
          refine rg_take 6 (d := (some 27)) (v := .pointer (some (ad.add (q * 4)))) (by decide) rfl rfl (by kernel_rfl) (by kernel_rfl) (by kernel_rfl) (fun _ _ _ h => h) rfl (fun W => by go_simp) ?_
          conv => arg 8; simp only [Act.put, List.setIfInBounds_toArray, List.set_cons_zero, List.set_cons_succ]
          refine rg_take 7 (d := (some 28)) (v := .pointer (some (ad.add (q * 4)))) (by decide) rfl rfl (by kernel_rfl) (by kernel_rfl) (by kernel_rfl) (fun _ _ _ h => h) rfl (fun W => by go_simp) ?_
          conv => arg 8; simp only [Act.put, List.setIfInBounds_toArray, List.set_cons_zero, List.set_cons_succ]
          refine rg_read 8 (d := (some 29)) (v := n64 yt) (by decide) (by kernel_rfl) (by kernel_rfl) rfl rfl (by kernel_rfl) (by kernel_rfl) (by kernel_rfl) (fun _ _ _ h => h) rfl (fun W hW => by have hc := (fun W hW => (HX.out.1 W (d3.thenN hW)).c0) W hW; go_simp) ?_
          conv => arg 8; simp only [Act.put, List.setIfInBounds_toArray, List.set_cons_zero, List.set_cons_succ]
          refine rg_take 9 (d := (some 30)) (v := .pointer (some ⟨w.heap.size, 0, none⟩)) (by decide) rfl rfl (by kernel_rfl) (by kernel_rfl) (by kernel_rfl) (fun _ _ _ h => h) rfl (fun W => by go_simp) ?_
          conv => arg 8; simp only [Act.put, List.setIfInBounds_toArray, List.set_cons_zero, List.set_cons_succ]
          refine rg_read 10 (d := (some 31)) (v := n64 t) (by decide) (by kernel_rfl) (by kernel_rfl) rfl rfl (by kernel_rfl) (by kernel_rfl) (by kernel_rfl) (fun _ _ _ h => h) rfl (fun W hW => by have hc := (fun W hW => HX.out.2.1 W (d3.thenN hW)) W hW; go_simp) ?_
          conv => arg 8; simp only [Act.put, List.setIfInBounds_toArray, List.set_cons_zero, List.set_cons_succ]
          refine rg_take 11 (d := (some 32)) (v := .bool true) (by decide) rfl rfl (by kernel_rfl) (by kernel_rfl) (by kernel_rfl) (fun _ _ _ h => h) rfl (fun W => by go_simp) ?_
          conv => arg 8; simp only [Act.put, List.setIfInBounds_toArray, List.set_cons_zero, List.set_cons_succ]
          refine rg_take 12 (d := (some 33)) (v := .bool true) (by decide) rfl rfl (by kernel_rfl) (by kernel_rfl) (by kernel_rfl) (fun _ _ _ h => h) rfl (fun W => rfl) ?_
          conv => arg 8; simp only [Act.put, List.setIfInBounds_toArray, List.set_cons_zero, List.set_cons_succ]
          refine rg_done (by kernel_rfl) ?_
          have HF := Lib.hid (HH.out.2.1.thenN (HX.out.2.2.thenN d3))
          go_wp2_with fail
          go_ret
          exact ⟨by rw [HRR.out]; rfl, HF.out⟩
        · have HD := Lib.hid (HG.out.1 (fun _ => e2))
          have e2' : ((yt : Int) == (t : Int)) = false := by simp; omega
          clear e2
          go_wp2_with fail
          refine rg_begin 13 (fun _ => False) (by kernel_rfl) (fun w3 d3 => ?_)
          refine rg_take 0 (d := (some 21)) (v := .pointer (some ⟨w.heap.size, 0, none⟩)) (by decide) rfl rfl (by kernel_rfl) (by kernel_rfl) (by kernel_rfl) (fun _ _ _ h => h) rfl (fun W => by go_simp) ?_
          conv => arg 8; simp only [Act.put, List.setIfInBounds_toArray, List.set_cons_zero, List.set_cons_succ]
          refine rg_read 1 (d := (some 22)) (v := n64 t) (by decide) (by kernel_rfl) (by kernel_rfl) rfl rfl (by kernel_rfl) (by kernel_rfl) (by kernel_rfl) (fun _ _ _ h => h) rfl (fun W hW => by have hc := (fun W hW => HX.out.2.1 W (d3.thenN hW)) W hW; go_simp) ?_
          conv => arg 8; simp only [Act.put, List.setIfInBounds_toArray, List.set_cons_zero, List.set_cons_succ]
          refine rg_call 2 (d := (some 23)) (by kernel_rfl) (HK.out w3) rfl rfl (by kernel_rfl) rfl rfl ?_
          rintro e w4 ⟨rfl, rfl⟩
          refine ⟨_, rfl, Kp.refl _ _, ?_⟩
          conv => arg 8; simp only [Act.put, List.setIfInBounds_toArray, List.set_cons_zero, List.set_cons_succ]
          refine rg_take 3 (d := (some 24)) (v := .bool true) (by decide) rfl rfl (by kernel_rfl) (by kernel_rfl) (by kernel_rfl) (fun _ _ _ h => h) rfl (fun W => rfl) ?_
          conv => arg 8; simp only [Act.put, List.setIfInBounds_toArray, List.set_cons_zero, List.set_cons_succ]
          refine rg_take 4 (d := (some 25)) (v := .slice (some ad) N bc) (by decide) rfl rfl (by kernel_rfl) (by kernel_rfl) (by kernel_rfl) (fun _ _ _ h => h) rfl (fun W => rfl) ?_
          conv => arg 8; simp only [Act.put, List.setIfInBounds_toArray, List.set_cons_zero, List.set_cons_succ]
          refine rg_take 5 (d := (some 26)) (v := .int .i64 q) (by decide) rfl rfl (by kernel_rfl) (by kernel_rfl) (by kernel_rfl) (fun _ _ _ h => h) rfl (fun W => rfl) ?_
          conv => arg 8; simp only [Act.put, List.setIfInBounds_toArray, List.set_cons_zero, List.set_cons_succ]
          refine rg_take 6 (d := (some 27)) (v := .pointer (some (ad.add (q * 4)))) (by decide) rfl rfl (by kernel_rfl) (by kernel_rfl) (by kernel_rfl) (fun _ _ _ h => h) rfl (fun W => by go_simp) ?_
          conv => arg 8; simp only [Act.put, List.setIfInBounds_toArray, List.set_cons_zero, List.set_cons_succ]
          refine rg_take 7 (d := (some 28)) (v := .pointer (some (ad.add (q * 4)))) (by decide) rfl rfl (by kernel_rfl) (by kernel_rfl) (by kernel_rfl) (fun _ _ _ h => h) rfl (fun W => by go_simp) ?_
          conv => arg 8; simp only [Act.put, List.setIfInBounds_toArray, List.set_cons_zero, List.set_cons_succ]
          refine rg_read 8 (d := (some 29)) (v := n64 yt) (by decide) (by kernel_rfl) (by kernel_rfl) rfl rfl (by kernel_rfl) (by kernel_rfl) (by kernel_rfl) (fun _ _ _ h => h) rfl (fun W hW => by have hc := (fun W hW => (HX.out.1 W (d3.thenN hW)).c0) W hW; go_simp) ?_
          conv => arg 8; simp only [Act.put, List.setIfInBounds_toArray, List.set_cons_zero, List.set_cons_succ]
          refine rg_take 9 (d := (some 30)) (v := .pointer (some ⟨w.heap.size, 0, none⟩)) (by decide) rfl rfl (by kernel_rfl) (by kernel_rfl) (by kernel_rfl) (fun _ _ _ h => h) rfl (fun W => by go_simp) ?_
          conv => arg 8; simp only [Act.put, List.setIfInBounds_toArray, List.set_cons_zero, List.set_cons_succ]
          refine rg_read 10 (d := (some 31)) (v := n64 t) (by decide) (by kernel_rfl) (by kernel_rfl) rfl rfl (by kernel_rfl) (by kernel_rfl) (by kernel_rfl) (fun _ _ _ h => h) rfl (fun W hW => by have hc := (fun W hW => HX.out.2.1 W (d3.thenN hW)) W hW; go_simp) ?_
          conv => arg 8; simp only [Act.put, List.setIfInBounds_toArray, List.set_cons_zero, List.set_cons_succ]
          refine rg_take 11 (d := (some 32)) (v := .bool false) (by decide) rfl rfl (by kernel_rfl) (by kernel_rfl) (by kernel_rfl) (fun _ _ _ h => h) rfl (fun W => by go_simp) ?_
          conv => arg 8; simp only [Act.put, List.setIfInBounds_toArray, List.set_cons_zero, List.set_cons_succ]
          refine rg_take 12 (d := (some 33)) (v := .bool false) (by decide) rfl rfl (by kernel_rfl) (by kernel_rfl) (by kernel_rfl) (fun _ _ _ h => h) rfl (fun W => rfl) ?_
          conv => arg 8; simp only [Act.put, List.setIfInBounds_toArray, List.set_cons_zero, List.set_cons_succ]
          refine rg_done (by kernel_rfl) ?_
          have HF := Lib.hid (HX.out.2.2.thenN d3)
          go_wp2_with fail
          go_roundw
          case rel => exact ⟨q + 1, by omega, by go_num, fun j hj hjq _ => HD.out j hj hjq trivial, HF.out⟩
          case measure => exact meas_up hlt
    · have hqn : q = N := by omega
      have ht : tyBad t l = false := tyBad_ok HT.out.1 HT.out.2 (fun j hj hk => HN.out j hj (by have := HB.out.1; omega) hk)
      have HTB := Lib.hid ht
      subst hqn
      have b1 := (HH.out.2.2.1 wr kr).at_ 1 rfl
      have HKR := Lib.hid kr
      clear ht kr
      by_cases n1 : n < 2
      · have n1' : (n : Int) < 2 := by omega
        have HRR := Lib.hid (HR.out.2.1 HTB.out (nuBad_small (.inl n1)))
        have HF := Lib.hid (HH.out.2.1.thenN HKR.out)
        clear n1
        go_wp2_with fail
        go_ret
        exact ⟨by rw [HRR.out]; rfl, HF.out⟩
      have n1' : decide ((n : Int) < 2) = false := by simp; omega
      by_cases n2 : 255 < n
      · have n2' : (255 : Int) < (n : Int) := by omega
        have HRR := Lib.hid (HR.out.2.1 HTB.out (nuBad_small (.inr n2)))
        have HF := Lib.hid (HH.out.2.1.thenN HKR.out)
        clear n1 n2
        go_wp2_with fail
        go_ret
        exact ⟨by rw [HRR.out]; rfl, HF.out⟩
      have n2' : decide ((255 : Int) < (n : Int)) = false := by simp; omega
      have HT2 := Lib.hid (show 2 ≤ n ∧ n ≤ 255 by omega)
      clear n1 n2
      go_wp2_with fail
      clear n1' n2' b1
      obtain ⟨wb, hwb⟩ : ∃ wb, wr = wb := ⟨_, rfl⟩
      rw [hwb] at HKR ⊢
      clear hwb
      go_loopw [6] (fun i wr => ∃ p : Nat, p ≤ q ∧ i = .int .i64 p ∧ (∀ j (hj : j < l.length), j < p → l[j].nu ≠ n) ∧ KpN w1 wr) (fun i _ => q - (intOf i).toNat)
      case atStart => exact ⟨0, Nat.zero_le _, rfl, fun j _ hj => by omega, HKR.out⟩
      case round =>
        obtain ⟨p, hp, rfl, hno, kr⟩ := hrel
        have HN2 := Lib.hid hno
        clear hno
        by_cases hlp : p < q
        · have hpl : p < l.length := by rw [HB.out.1]; exact hlp
          obtain ⟨ad, cs, rfl, -, hrow0, ⟨⟨dw, rfl, hdw⟩, hxo⟩⟩ := HB.out.2.row p hpl
          obtain ⟨y, hy⟩ : ∃ y, l[p] = y := ⟨_, rfl⟩
          have hgo : (y.nu ≠ n) → ∀ j (hj : j < l.length), j < p + 1 → l[j].nu ≠ n := fun e j hj hjq => by
            by_cases hje : j = p
            · subst hje; rw [hy]; exact e
            · exact HN2.out j hj (by omega)
          have hd2 : y.nu = n → r = 2 := fun e => HR.out.2.1 HTB.out (nuBad_dup hpl (by rw [hy]; exact e))
          rw [hy] at hrow0
          obtain ⟨yt, yn, yf, yd⟩ := y
          dsimp only at hrow0 hgo hd2
          have kww := HH.out.2.1.thenN kr
          have c1 := (hrow0.keepN kww).fld 0 rfl
          have b1 := (HH.out.2.2.1 wr kr).at_ 1 rfl
          have HG := Lib.hid (And.intro hgo (And.intro hd2 (And.intro kr kww)))
          clear hrow0 hdw hxo hy hgo hd2 kr kww
          by_cases e2 : yn = n
          · have HRR := Lib.hid (HG.out.2.1 e2)
            have e2' : ((yn : Int) == (n : Int)) = true := by simp; omega
            clear e2
            go_wp2_with fail
            go_region
            go_wp2_with fail
            go_ret
            exact ⟨by rw [HRR.out]; rfl, HG.out.2.2.2.drew⟩
          · have HD := Lib.hid (HG.out.1 e2)
            have e2' : ((yn : Int) == (n : Int)) = false := by simp; omega
            clear e2
            go_wp2_with fail
            go_region
            go_wp2_with fail
            go_roundw
            case rel => exact ⟨p + 1, by omega, by go_num, HD.out, HG.out.2.2.1.drew⟩
            case measure => exact meas_up hlp
        · have hpq : p = q := by omega
          have hn : nuBad n l = false := nuBad_ok HT2.out.1 HT2.out.2 (fun j hj => HN2.out j hj (by have := HB.out.1; omega))
          have b2 := (HH.out.2.2.1 wr kr).at_ 2 rfl
          subst hpq
          have HF := Lib.hid (HH.out.2.1.thenN kr)
          have HNB := Lib.hid hn
          clear hn kr
          by_cases f1 : 255 < f
          · have f1' : (255 : Int) < (f : Int) := by omega
            have HRR := Lib.hid (HR.out.2.2.1 HTB.out HNB.out f1)
            clear f1
            go_wp2_with fail
            go_ret
            exact ⟨by rw [HRR.out]; rfl, HF.out⟩
          · have f1' : decide ((255 : Int) < (f : Int)) = false := by simp; omega
            have HRR := Lib.hid (HR.out.2.2.2 HTB.out HNB.out (by omega))
            clear f1
            go_wp2_with fail
            go_ret
            exact ⟨by rw [HRR.out]; rfl, HF.out⟩
end Go.Proofs.Yteokkpmndfekoaa
