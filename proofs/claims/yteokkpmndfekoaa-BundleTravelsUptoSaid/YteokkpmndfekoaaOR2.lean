/- octet.Reader: Take, Bytes, End, New. -/
import Derived.Test.YteokkpmndfekoaaOR1
namespace Go.Proofs.Yteokkpmndfekoaa
open Go Go.RowKit
set_option maxRecDepth 100000

theorem wrap_id64 (x : Int) (h0 : -9223372036854775808 ≤ x) (h1 : x ≤ 9223372036854775807) : IntKind.i64.wrap x = x := by
  simp [IntKind.wrap, IntKind.bits, IntKind.signed]
  omega
def rTake (xs : List UInt8) (a : Nat) (f n : Int) : List UInt8 × Nat × Int :=
  if f ≠ 0 then ([], a, f) else if n < 0 then ([], a, 1) else if ((xs.length - a : Nat) : Int) < n then ([], a, 10) else ((xs.drop a).take n.toNat, a + n.toNat, 0)
theorem RdrC.wideF {w : World} {F G : Nat → Prop} {g a : Nat} {f : Int} {v : Value} {xs : List UInt8} (h : RdrC w F g v xs a f) (hs : ∀ i, i < w.heap.size → F i → G i) : RdrC w G g v xs a f :=
  ⟨hs _ h.lt h.fit, h.lt, h.c0, h.c1, h.c2, h.c3, h.fz, h.le, h.small, h.own.wide (fun k hk hf => ⟨hs k hk hf.1, hf.2⟩)⟩
set_option maxHeartbeats 1600000 in
theorem rdTake_c {w : World} {F : Nat → Prop} {g a : Nat} {f n : Int} {v : Value} {xs : List UInt8} (h : RdrC w F g v xs a f) (hn : -9223372036854775808 ≤ n ∧ n ≤ 9223372036854775807) :
    Calls Try.prog 44 #[.pointer (some ⟨g, 0, none⟩), .int .i64 n] w fun e w' => ∃ u, e = .returned u ∧ OwB w' 5 (Iv w.heap.size w'.heap.size) u (rTake xs a f n).1 ∧ RdrC w' F g v xs (rTake xs a f n).2.1 (rTake xs a f n).2.2 ∧ Kp F w w' := by
  go_enter Try.func44, Try.ntmps44
  by_cases hf : f = 0
  · subst hf
    go_wp2_with fail
    refine (bad_f h).mono ?_
    rintro e w2 ⟨rfl, rfl⟩
    by_cases h0 : n < 0
    · have hr : rTake xs a 0 n = ([], a, 1) := by simp [rTake, h0]
      have f3 := h.fz 3
      have c3 := h.c3
      have hw := h.setFault 1
      have kw := kp1_set (w := w) h.fit 3 (.int .i64 1)
      have HR := Lib.hid hr
      clear hr
      go_wp2
      go_ret
      exact ⟨.slice none 0 0, rfl, by rw [HR.out]; exact OwB.nil _ _ _, by rw [HR.out]; exact hw, kw⟩
    · obtain ⟨m, rfl⟩ := Int.eq_ofNat_of_zero_le (show 0 ≤ n by omega)
      obtain ⟨A, c, rfl, hc⟩ := h.own.readsB.form
      have c0 := h.c0
      have c1 := h.c1
      have hle := h.le
      have hsm := h.small
      have e1 : ((xs.length : Int) - (a : Int)) = ((xs.length - a : Nat) : Int) := by omega
      obtain ⟨l, hl⟩ : ∃ l, xs.length - a = l := ⟨_, rfl⟩
      rw [hl] at e1
      have hT : rTake xs a 0 (m : Int) = if l < m then ([], a, 10) else ((xs.drop a).take m, a + m, 0) := by
        have h3 : ((l : Int) < (m : Int)) ↔ l < m := by omega
        rw [rTake, if_neg (by simp), if_neg h0, hl]
        simp only [h3, Int.toNat_natCast]
      have HT := Lib.hid hT
      have HL := Lib.hid hl
      clear hT hl
      go_wp2
      go_region
      have hd := h.keepN (Kp.refl (fun _ => False) w).drew
      have kd := (Kp.refl (fun _ => False) w).drew
      generalize w.drew = w1 at *
      clear c0 c1
      by_cases hlm : l < m
      · have hli : (l : Int) < (m : Int) := by omega
        have hr := HT.out
        rw [if_pos hlm] at hr
        have f3 := hd.fz 3
        have c3 := hd.c3
        have hw := hd.setFault 10
        have kw := Kp.after kd (kp1_set (w := w1) h.fit 3 (.int .i64 10))
        have HR := Lib.hid hr
        clear hr
        go_wp2
        go_ret
        exact ⟨.slice none 0 0, rfl, by rw [HR.out]; exact OwB.nil _ _ _, by rw [HR.out]; exact hw, kw⟩
      · have hli : ¬ (l : Int) < (m : Int) := by omega
        have hr := HT.out
        rw [if_neg hlm] at hr
        have HR := Lib.hid hr
        have f1 := hd.fz 1
        have c1 := hd.c1
        have ham : a + m ≤ xs.length := by have := HL.out; omega
        have hw := hd.setAt (a + m) ham
        have kw := Kp.after kd (kp1_set (w := w1) h.fit 1 (.int .i64 ((a + m : Nat) : Int)))
        have es : (a : Int) + (m : Int) = ((a + m : Nat) : Int) := by omega
        obtain ⟨am, hm⟩ : ∃ am, a + m = am := ⟨_, rfl⟩
        have HM := Lib.hid hm
        rw [hm] at es hw kw ham
        clear hr hm
        go_wp2_with fail
        have hmm : am - a = m := by have := HM.out; omega
        have eb : (am : Int) - (m : Int) = (a : Int) := by have := HM.out; omega
        have hale : (a : Int) ≤ (am : Int) := by have := HM.out; omega
        have hamc : am ≤ c := by omega
        have hamci : (am : Int) ≤ (c : Int) := by omega
        have hac : a ≤ c := by omega
        have haam : a ≤ am := by have := HM.out; omega
        refine rg_begin 17 (fun _ => False) (by kernel_rfl) (fun w3 d3 => ?_)
        have h3 := hw.keepN d3
        have r3 := (h3.own.readsB.lo a hle).take m (by have := HM.out; omega)
        rw [← hmm] at r3
        refine rg_take 0 (d := (some 38)) (v := .pointer (some ⟨g, 0, none⟩)) (by decide) rfl rfl (by kernel_rfl) (by kernel_rfl) (by kernel_rfl) (fun _ _ _ h => h) rfl (fun W => rfl) ?_
        conv => arg 8; simp only [Act.put, List.setIfInBounds_toArray, List.set_cons_zero, List.set_cons_succ]
        refine rg_take 1 (d := (some 39)) (v := .pointer (some ⟨g, 0, none⟩)) (by decide) rfl rfl (by kernel_rfl) (by kernel_rfl) (by kernel_rfl) (fun _ _ _ h => h) rfl (fun W => by go_simp) ?_
        conv => arg 8; simp only [Act.put, List.setIfInBounds_toArray, List.set_cons_zero, List.set_cons_succ]
        refine rg_take 2 (d := (some 40)) (v := .pointer (some ⟨g, 0, none⟩)) (by decide) rfl rfl (by kernel_rfl) (by kernel_rfl) (by kernel_rfl) (fun _ _ _ h => h) rfl (fun W => by go_simp) ?_
        conv => arg 8; simp only [Act.put, List.setIfInBounds_toArray, List.set_cons_zero, List.set_cons_succ]
        refine rg_read 3 (d := (some 41)) (v := .slice A xs.length c) (by decide) (by kernel_rfl) (by kernel_rfl) rfl rfl (by kernel_rfl) (by kernel_rfl) (by kernel_rfl) (fun _ _ _ h => h) rfl (fun W hW => by have hc := (hW.cell (p := ⟨g, 0, none⟩) (h3.lt) (fun x => x)).trans (h3.c0); go_simp) ?_
        conv => arg 8; simp only [Act.put, List.setIfInBounds_toArray, List.set_cons_zero, List.set_cons_succ]
        refine rg_take 4 (d := (some 42)) (v := .pointer (some ⟨g, 0, none⟩)) (by decide) rfl rfl (by kernel_rfl) (by kernel_rfl) (by kernel_rfl) (fun _ _ _ h => h) rfl (fun W => rfl) ?_
        conv => arg 8; simp only [Act.put, List.setIfInBounds_toArray, List.set_cons_zero, List.set_cons_succ]
        refine rg_take 5 (d := (some 43)) (v := .pointer (some ⟨g, 0, none⟩)) (by decide) rfl rfl (by kernel_rfl) (by kernel_rfl) (by kernel_rfl) (fun _ _ _ h => h) rfl (fun W => by go_simp) ?_
        conv => arg 8; simp only [Act.put, List.setIfInBounds_toArray, List.set_cons_zero, List.set_cons_succ]
        refine rg_take 6 (d := (some 44)) (v := .pointer (some ⟨g, 1, none⟩)) (by decide) rfl rfl (by kernel_rfl) (by kernel_rfl) (by kernel_rfl) (fun _ _ _ h => h) rfl (fun W => by go_simp) ?_
        conv => arg 8; simp only [Act.put, List.setIfInBounds_toArray, List.set_cons_zero, List.set_cons_succ]
        refine rg_read 7 (d := (some 45)) (v := .int .i64 am) (by decide) (by kernel_rfl) (by kernel_rfl) rfl rfl (by kernel_rfl) (by kernel_rfl) (by kernel_rfl) (fun _ _ _ h => h) rfl (fun W hW => by have hc := (hW.cell (p := ⟨g, 1, none⟩) (h3.lt) (fun x => x)).trans (h3.c1); go_simp) ?_
        conv => arg 8; simp only [Act.put, List.setIfInBounds_toArray, List.set_cons_zero, List.set_cons_succ]
        refine rg_take 8 (d := (some 46)) (v := .int .i64 m) (by decide) rfl rfl (by kernel_rfl) (by kernel_rfl) (by kernel_rfl) (fun _ _ _ h => h) rfl (fun W => rfl) ?_
        conv => arg 8; simp only [Act.put, List.setIfInBounds_toArray, List.set_cons_zero, List.set_cons_succ]
        refine rg_take 9 (d := (some 47)) (v := .int .i64 a) (by decide) rfl rfl (by kernel_rfl) (by kernel_rfl) (by kernel_rfl) (fun _ _ _ h => h) rfl (fun W => by go_simp; exact wrap_id64 _ (by omega) (by omega)) ?_
        conv => arg 8; simp only [Act.put, List.setIfInBounds_toArray, List.set_cons_zero, List.set_cons_succ]
        refine rg_take 10 (d := (some 48)) (v := .pointer (some ⟨g, 0, none⟩)) (by decide) rfl rfl (by kernel_rfl) (by kernel_rfl) (by kernel_rfl) (fun _ _ _ h => h) rfl (fun W => rfl) ?_
        conv => arg 8; simp only [Act.put, List.setIfInBounds_toArray, List.set_cons_zero, List.set_cons_succ]
        refine rg_take 11 (d := (some 49)) (v := .pointer (some ⟨g, 0, none⟩)) (by decide) rfl rfl (by kernel_rfl) (by kernel_rfl) (by kernel_rfl) (fun _ _ _ h => h) rfl (fun W => by go_simp) ?_
        conv => arg 8; simp only [Act.put, List.setIfInBounds_toArray, List.set_cons_zero, List.set_cons_succ]
        refine rg_take 12 (d := (some 50)) (v := .pointer (some ⟨g, 1, none⟩)) (by decide) rfl rfl (by kernel_rfl) (by kernel_rfl) (by kernel_rfl) (fun _ _ _ h => h) rfl (fun W => by go_simp) ?_
        conv => arg 8; simp only [Act.put, List.setIfInBounds_toArray, List.set_cons_zero, List.set_cons_succ]
        refine rg_read 13 (d := (some 51)) (v := .int .i64 am) (by decide) (by kernel_rfl) (by kernel_rfl) rfl rfl (by kernel_rfl) (by kernel_rfl) (by kernel_rfl) (fun _ _ _ h => h) rfl (fun W hW => by have hc := (hW.cell (p := ⟨g, 1, none⟩) (h3.lt) (fun x => x)).trans (h3.c1); go_simp) ?_
        conv => arg 8; simp only [Act.put, List.setIfInBounds_toArray, List.set_cons_zero, List.set_cons_succ]
        refine rg_take 14 (d := (some 52)) (v := .slice (loA A c a) (am - a) (c - a)) (by decide) rfl rfl (by kernel_rfl) (by kernel_rfl) (by kernel_rfl) (fun _ _ _ h => h) rfl (fun W => by unfold loA; rcases A with _ | ad <;> go_simp) ?_
        conv => arg 8; simp only [Act.put, List.setIfInBounds_toArray, List.set_cons_zero, List.set_cons_succ]
        refine rg_call 15 (d := (some 53)) (by kernel_rfl) (clone_c r3 (by simp; omega)) rfl rfl (by kernel_rfl) rfl rfl ?_
        rintro e w4 ⟨a4, rfl, o4, k4⟩
        refine ⟨_, rfl, k4, ?_⟩
        conv => arg 8; simp only [Act.put, List.setIfInBounds_toArray, List.set_cons_zero, List.set_cons_succ]
        refine rg_take 16 (d := (some 4)) (v := a4) (by decide) rfl rfl (by kernel_rfl) (by kernel_rfl) (by kernel_rfl) (fun _ _ _ h => h) rfl (fun W => rfl) ?_
        conv => arg 8; simp only [Act.put, List.setIfInBounds_toArray, List.set_cons_zero, List.set_cons_succ]
        refine rg_done (by kernel_rfl) ?_
        go_wp2
        go_ret
        exact ⟨a4, rfl, by rw [HR.out]; rw [hmm] at o4; exact o4.wide (fun k _ hk => ⟨by have := kw.size; have := d3.size; have := hk.1; omega, hk.2⟩), by rw [HR.out, HM.out]; exact h3.keepN k4, (kw.thenN d3).thenN k4⟩
  · have hr : rTake xs a f n = ([], a, f) := by simp [rTake, hf]
    have HR := Lib.hid hr
    clear hr
    go_wp2_with fail
    refine (bad_t h hf).mono ?_
    rintro e w2 ⟨rfl, rfl⟩
    go_wp2
    go_ret
    exact ⟨.slice none 0 0, rfl, by rw [HR.out]; exact OwB.nil _ _ _, by rw [HR.out]; exact h, Kp.refl _ _⟩
def rBytes (xs : List UInt8) (a : Nat) (f most : Int) : List UInt8 × Nat × Int :=
  if f ≠ 0 then ([], a, f) else if most < 0 then ([], a, 1) else
    if (rTake xs (rNum xs a 0 most.toNat).2.1 (rNum xs a 0 most.toNat).2.2 ((rNum xs a 0 most.toNat).1 : Nat)).2.2 ≠ 0 then ((rTake xs (rNum xs a 0 most.toNat).2.1 (rNum xs a 0 most.toNat).2.2 ((rNum xs a 0 most.toNat).1 : Nat)).1, a, (rTake xs (rNum xs a 0 most.toNat).2.1 (rNum xs a 0 most.toNat).2.2 ((rNum xs a 0 most.toNat).1 : Nat)).2.2)
    else rTake xs (rNum xs a 0 most.toNat).2.1 (rNum xs a 0 most.toNat).2.2 ((rNum xs a 0 most.toNat).1 : Nat)
theorem rNum_most (xs : List UInt8) (a : Nat) (f : Int) (most : Nat) : (rNum xs a f most).1 ≤ most := by
  unfold rNum
  split
  · simp
  · split
    · simp
    · split
      · simp
      · show _ ≤ most
        omega
set_option maxHeartbeats 1600000 in
theorem rdBytes_c {w : World} {F : Nat → Prop} {g a : Nat} {f most : Int} {v : Value} {xs : List UInt8} (h : RdrC w F g v xs a f) (hn : -9223372036854775808 ≤ most ∧ most ≤ 9223372036854775807) (hF : ∀ i, F i → i < w.heap.size) :
    Calls Try.prog 50 #[.pointer (some ⟨g, 0, none⟩), .int .i64 most] w fun e w' => ∃ u, e = .returned u ∧ OwB w' 5 (Iv w.heap.size w'.heap.size) u (rBytes xs a f most).1 ∧ RdrC w' F g v xs (rBytes xs a f most).2.1 (rBytes xs a f most).2.2 ∧ Kp F w w' := by
  go_enter Try.func50, Try.ntmps50
  by_cases hf : f = 0
  · subst hf
    go_wp2_with fail
    refine (bad_f h).mono ?_
    rintro e w2 ⟨rfl, rfl⟩
    by_cases h0 : most < 0
    · have hr : rBytes xs a 0 most = ([], a, 1) := by simp [rBytes, h0]
      have f3 := h.fz 3
      have c3 := h.c3
      have hw := h.setFault 1
      have kw := kp1_set (w := w) h.fit 3 (.int .i64 1)
      have HR := Lib.hid hr
      clear hr
      go_wp2
      go_ret
      exact ⟨.slice none 0 0, rfl, by rw [HR.out]; exact OwB.nil _ _ _, by rw [HR.out]; exact hw, kw⟩
    · obtain ⟨m, rfl⟩ := Int.eq_ofNat_of_zero_le (show 0 ≤ most by omega)
      have c1 := h.c1
      have hle := h.le
      have hsm := h.small
      have hT : rBytes xs a 0 (m : Int) = if (rTake xs (rNum xs a 0 m).2.1 (rNum xs a 0 m).2.2 ((rNum xs a 0 m).1 : Nat)).2.2 ≠ 0 then ((rTake xs (rNum xs a 0 m).2.1 (rNum xs a 0 m).2.2 ((rNum xs a 0 m).1 : Nat)).1, a, (rTake xs (rNum xs a 0 m).2.1 (rNum xs a 0 m).2.2 ((rNum xs a 0 m).1 : Nat)).2.2) else rTake xs (rNum xs a 0 m).2.1 (rNum xs a 0 m).2.2 ((rNum xs a 0 m).1 : Nat) := by
        rw [rBytes, if_neg (by simp), if_neg h0, Int.toNat_natCast]
      have hmost := rNum_most xs a 0 m
      have HN := rdNumber_c (most := m) h (by omega)
      obtain ⟨n, a1, f1, hN⟩ : ∃ n a1 f1, rNum xs a 0 m = (n, a1, f1) := ⟨_, _, _, rfl⟩
      rw [hN] at HN hmost hT
      obtain ⟨ys, a2, f2, hY⟩ : ∃ ys a2 f2, rTake xs a1 f1 (n : Int) = (ys, a2, f2) := ⟨_, _, _, rfl⟩
      simp only [hY] at hT
      simp only at hmost HN
      have HT := Lib.hid hT
      clear hT hN
      go_wp2_with fail
      refine HN.mono ?_
      rintro e w1 ⟨rfl, h1, k1⟩
      clear HN
      have hni : (n : Int) ≤ 9223372036854775807 := by omega
      go_wp2_with fail
      refine (rdTake_c h1 (by omega)).mono ?_
      rintro e w2 ⟨u, rfl, o2, h2, k2⟩
      rw [hY] at o2 h2
      simp only at o2 h2
      have k02 : Kp F w w2 := k1.trans k2 (fun _ _ x => x) (fun _ _ x => x)
      have c3 := h2.c3
      have f1' := h2.fz 1
      have c1' := h2.c1
      have hz1 := k1.size
      clear hY c1
      by_cases hf2 : f2 = 0
      · subst hf2
        have hr := HT.out
        rw [if_neg (by simp)] at hr
        have HR := Lib.hid hr
        clear hr
        go_wp2
        go_ret
        exact ⟨u, rfl, by rw [HR.out]; exact o2.wide (fun k _ hk => ⟨by have := hk.1; omega, hk.2⟩), by rw [HR.out]; exact h2, k02⟩
      · have hr := HT.out
        rw [if_pos hf2] at hr
        have HR := Lib.hid hr
        have hf2i : ¬ f2 = 0 := hf2
        have hw := h2.setAt a hle
        have ks := kp1_set (w := w2) h2.fit 1 (.int .i64 (a : Int))
        have hg := hF g h.fit
        have o3 := o2.keep (S := fun i => i = g) (kp1_set (w := w2) (F := fun i => i = g) rfl 1 (.int .i64 (a : Int))) (fun i hi => by have := hi.1; omega)
        clear hr
        go_wp2
        go_ret
        exact ⟨u, rfl, by rw [HR.out]; exact o3.wide (fun k _ hk => ⟨by have := hk.1; omega, by have := hk.2; simpa using this⟩), by rw [HR.out]; exact hw, k02.trans ks (fun _ _ x => x) (fun _ _ x => x)⟩
  · have hr : rBytes xs a f most = ([], a, f) := by simp [rBytes, hf]
    have HR := Lib.hid hr
    clear hr
    go_wp2_with fail
    refine (bad_t h hf).mono ?_
    rintro e w2 ⟨rfl, rfl⟩
    go_wp2
    go_ret
    exact ⟨.slice none 0 0, rfl, by rw [HR.out]; exact OwB.nil _ _ _, by rw [HR.out]; exact h, Kp.refl _ _⟩
def rEnd (xs : List UInt8) (a : Nat) (f : Int) : Int := if f = 0 ∧ a < xs.length then 11 else f
set_option maxHeartbeats 1600000 in
theorem rdEnd_c {w : World} {F : Nat → Prop} {g a : Nat} {f : Int} {v : Value} {xs : List UInt8} (h : RdrC w F g v xs a f) :
    Calls Try.prog 51 #[.pointer (some ⟨g, 0, none⟩)] w fun e w' => e = .returned (.int .i64 (rEnd xs a f)) ∧ RdrC w' F g v xs a (rEnd xs a f) ∧ Kp F w w' := by
  go_enter Try.func51, Try.ntmps51
  by_cases hf : f = 0
  · subst hf
    go_wp2_with fail
    refine (bad_f h).mono ?_
    rintro e w2 ⟨rfl, rfl⟩
    have HL := left_c h
    obtain ⟨l, hl⟩ : ∃ l, xs.length - a = l := ⟨_, rfl⟩
    rw [hl] at HL
    go_wp2_with fail
    refine HL.mono ?_
    rintro e w2 ⟨rfl, k2⟩
    clear HL
    have h2 := h.keepN k2
    by_cases hz : l = 0
    · have hr : rEnd xs a 0 = 0 := by rw [rEnd, if_neg (by omega)]
      have HR := Lib.hid hr
      subst hz
      clear hr hl
      go_wp2_with fail
      refine (err_c h2).mono ?_
      rintro e w3 ⟨rfl, rfl⟩
      go_wp2
      go_ret
      exact ⟨by rw [HR.out]; rfl, by rw [HR.out]; exact h2, k2.mono (fun _ _ x => x.elim)⟩
    · have hr : rEnd xs a 0 = 11 := by rw [rEnd, if_pos (by omega)]
      have HR := Lib.hid hr
      have hli : (0 : Int) < (l : Int) := by omega
      have hw := h2.setFault 11
      have ks := kp1_set (w := w2) h2.fit 3 (.int .i64 11)
      have f3 := h2.fz 3
      have c3 := h2.c3
      clear hr hl
      go_wp2_with fail
      refine (err_c hw).mono ?_
      rintro e w3 ⟨rfl, rfl⟩
      go_wp2
      go_ret
      exact ⟨by rw [HR.out]; rfl, by rw [HR.out]; exact hw, Kp.after k2 ks⟩
  · have hr : rEnd xs a f = f := by simp [rEnd, hf]
    have HR := Lib.hid hr
    clear hr
    go_wp2_with fail
    refine (bad_t h hf).mono ?_
    rintro e w2 ⟨rfl, rfl⟩
    go_wp2_with fail
    refine (err_c h).mono ?_
    rintro e w3 ⟨rfl, rfl⟩
    go_wp2
    go_ret
    exact ⟨by rw [HR.out]; rfl, by rw [HR.out]; exact h, Kp.refl _ _⟩
set_option maxHeartbeats 1600000 in
theorem new_c {w : World} {v : Value} {xs : List UInt8} (h : RdB w v xs) (hb : xs.length ≤ 100000000000) :
    Calls Try.prog 43 #[v] w fun e w' => ∃ g u, e = .returned (.pointer (some ⟨g, 0, none⟩)) ∧ RdrC w' (Iv w.heap.size w'.heap.size) g u xs 0 0 ∧ KpN w w' := by
  obtain ⟨A, c, rfl, hc⟩ := h.form
  go_enter Try.func43, Try.ntmps43
  go_wp2_with fail
  refine (clone_c h (by omega)).mono ?_
  rintro e w1 ⟨u, rfl, o1, k1⟩
  have hz := k1.size
  obtain ⟨B, d, rfl, hd⟩ := o1.readsB.form
  go_wp2
  go_ret
  have k2 := (Kp.refl (fun _ => False) w1).alloc (.cells #[.slice B xs.length d, .int .i64 0, .bool true, .int .i64 0] 127)
  refine ⟨w1.heap.size, _, rfl, ⟨⟨by omega, by simp⟩, by simp, by simp, by simp, by simp, by simp, fun j => by simp, Nat.zero_le _, hb, (o1.keepN k2).wide (fun k _ hk => ⟨⟨hk.1, by have := hk.2; simp; omega⟩, by have := hk.2; omega⟩)⟩, k1.thenN k2⟩
end Go.Proofs.Yteokkpmndfekoaa
