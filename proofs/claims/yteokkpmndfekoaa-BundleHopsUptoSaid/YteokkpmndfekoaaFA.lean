/- the document's two, one, holds, known, headed. -/
import Derived.Test.YteokkpmndfekoaaBX
import Derived.Test.YteokkpmndfekoaaOR3
namespace Go.Proofs.Yteokkpmndfekoaa
open Go Go.RowKit Go.ChangeShapes Go.WideShapes Go.ChangeAt
set_option maxRecDepth 100000

theorem rnum48_c {w : World} {F : Nat → Prop} {g a : Nat} {f : Int} {xs : List UInt8} (h : RefC w F g (xs.drop a) f) (ha : a ≤ xs.length) :
    Calls Try.prog 55 #[.pointer (some ⟨g, 0, none⟩), .int .u64 281474976710655] w fun e w' => e = .returned (n64 (rNum xs a f 281474976710655).1) ∧ RefC w' F g (xs.drop (rNum xs a f 281474976710655).2.1) (rNum xs a f 281474976710655).2.2 ∧ Kp F w w' :=
  rfNumber_c h ha (most := 281474976710655) (by omega)
theorem rEnd_iff (xs : List UInt8) (a : Nat) (f : Int) (l : Nat) (hl : (xs.drop a).length = l) : decide (rEnd xs a f = 0) = (decide (f = 0) && decide (l = 0)) := by
  rw [List.length_drop] at hl
  unfold rEnd
  by_cases hf : f = 0
  · by_cases h : a < xs.length
    · rw [if_pos ⟨hf, h⟩]
      have : ¬ l = 0 := by omega
      simp [this]
    · rw [if_neg (fun hh => h hh.2)]
      have : l = 0 := by omega
      simp [this, hf]
  · rw [if_neg (fun hh => hf hh.1)]
    simp [hf]
set_option maxHeartbeats 3200000 in
theorem rtwo_c {w : World} {v : Value} {xs : List UInt8} (h : RdB w v xs) (hl : xs.length ≤ 100000000000) : Calls Try.prog 66 #[v] w fun e w' => e = .returned (.tuple #[n64 (two xs).1, n64 (two xs).2.1, .bool (two xs).2.2]) ∧ KpN w w' := by
  obtain ⟨n1, a1, f1, e1⟩ : ∃ n a f, rNum xs 0 0 281474976710655 = (n, a, f) := ⟨_, _, _, rfl⟩
  obtain ⟨n2, a2, f2, e2⟩ : ∃ n a f, rNum xs a1 f1 281474976710655 = (n, a, f) := ⟨_, _, _, rfl⟩
  obtain ⟨L, hL⟩ : ∃ L, (xs.drop a2).length = L := ⟨_, rfl⟩
  have ht : two xs = (n1, n2, decide (f2 = 0) && decide (L = 0)) := by
    unfold two
    rw [e1]
    dsimp only
    rw [e2]
    dsimp only
    rw [rEnd_iff xs a2 f2 L hL]
  have ha1 := rNum_le xs 0 0 281474976710655 (Nat.zero_le _)
  rw [e1] at ha1
  rw [ht]
  obtain ⟨r, hr⟩ : ∃ r, (decide (f2 = 0) && decide (L = 0)) = r := ⟨_, rfl⟩
  rw [hr]
  have HQ := Lib.hid hr
  clear hr
  have HN := rfNew_c h hl
  have H1 := fun {w : World} {F : Nat → Prop} {g : Nat} (hh : RefC w F g (xs.drop 0) 0) => rnum48_c hh (Nat.zero_le _)
  have H2 := fun {w : World} {F : Nat → Prop} {g : Nat} (hh : RefC w F g (xs.drop a1) f1) => rnum48_c hh ha1
  rw [e1] at H1
  rw [e2] at H2
  dsimp only at H1 H2 ⊢
  have HL := Lib.hid hL
  clear e1 e2 ht ha1 hL
  go_enter Try.func66, Try.ntmps66
  go_wp2_with fail
  refine HN.mono ?_
  rintro e w1 ⟨g, rfl, hR, k1⟩
  clear HN
  go_wp2_with fail
  refine (H1 (by simpa using hR)).mono ?_
  rintro e w2 ⟨rfl, hR2, k2⟩
  clear H1
  go_wp2_with fail
  refine (H2 hR2).mono ?_
  rintro e w3 ⟨rfl, hR3, k3⟩
  clear H2
  have c1 := hR3.c1
  obtain ⟨u, c0, hu, -⟩ := hR3.c0
  obtain ⟨uA, uc, rfl, -⟩ := hu.form
  rw [HL.out] at c0
  have kk : KpN w w3 := (k1.fresh k2 (fun i hi => hi.1)).fresh k3 (fun i hi => hi.1)
  have HK := Lib.hid kk
  clear hR hR2 hR3 hu k1 k2 k3 kk
  by_cases hf : f2 = 0
  · by_cases h0 : L = 0
    · have HR := Lib.hid (show r = true by rw [← HQ.out]; simp [hf, h0])
      subst hf h0
      go_wp2_with fail
      go_region
      go_wp2_with fail
      go_ret3
      exact ⟨by rw [HR.out]; rfl, HK.out.drew⟩
    · have HR := Lib.hid (show r = false by rw [← HQ.out]; simp [h0])
      have h0' : ((L : Int) == 0) = false := by simp; omega
      subst hf
      clear h0
      go_wp2_with fail
      go_region
      go_wp2_with fail
      go_ret3
      exact ⟨by rw [HR.out]; rfl, HK.out.drew⟩
  · have HR := Lib.hid (show r = false by rw [← HQ.out]; simp [hf])
    have hf' : (f2 == 0) = false := by simp [hf]
    clear hf
    go_wp2_with fail
    go_region
    go_wp2_with fail
    go_ret3
    exact ⟨by rw [HR.out]; rfl, HK.out.drew⟩
set_option maxHeartbeats 3200000 in
theorem rone_c {w : World} {v : Value} {xs : List UInt8} (h : RdB w v xs) (hl : xs.length ≤ 100000000000) : Calls Try.prog 71 #[v] w fun e w' => e = .returned (.tuple #[n64 (one xs).1, .bool (one xs).2]) ∧ KpN w w' := by
  obtain ⟨n1, a1, f1, e1⟩ : ∃ n a f, rNum xs 0 0 281474976710655 = (n, a, f) := ⟨_, _, _, rfl⟩
  obtain ⟨L, hL⟩ : ∃ L, (xs.drop a1).length = L := ⟨_, rfl⟩
  have ht : one xs = (n1, decide (f1 = 0) && decide (L = 0)) := by
    unfold one
    rw [e1]
    dsimp only
    rw [rEnd_iff xs a1 f1 L hL]
  rw [ht]
  obtain ⟨r, hr⟩ : ∃ r, (decide (f1 = 0) && decide (L = 0)) = r := ⟨_, rfl⟩
  rw [hr]
  have HQ := Lib.hid hr
  clear hr
  have HN := rfNew_c h hl
  have H1 := fun {w : World} {F : Nat → Prop} {g : Nat} (hh : RefC w F g (xs.drop 0) 0) => rnum48_c hh (Nat.zero_le _)
  rw [e1] at H1
  dsimp only at H1 ⊢
  have HL := Lib.hid hL
  clear e1 ht hL
  go_enter Try.func71, Try.ntmps71
  go_wp2_with fail
  refine HN.mono ?_
  rintro e w1 ⟨g, rfl, hR, k1⟩
  clear HN
  go_wp2_with fail
  refine (H1 (by simpa using hR)).mono ?_
  rintro e w3 ⟨rfl, hR3, k3⟩
  clear H1
  have c1 := hR3.c1
  obtain ⟨u, c0, hu, -⟩ := hR3.c0
  obtain ⟨uA, uc, rfl, -⟩ := hu.form
  rw [HL.out] at c0
  have kk : KpN w w3 := k1.fresh k3 (fun i hi => hi.1)
  have HK := Lib.hid kk
  clear hR hR3 hu k1 k3 kk
  by_cases hf : f1 = 0
  · by_cases h0 : L = 0
    · have HR := Lib.hid (show r = true by rw [← HQ.out]; simp [hf, h0])
      subst hf h0
      go_wp2_with fail
      go_region
      go_wp2_with fail
      go_ret2
      exact ⟨by rw [HR.out]; rfl, HK.out.drew⟩
    · have HR := Lib.hid (show r = false by rw [← HQ.out]; simp [h0])
      have h0' : ((L : Int) == 0) = false := by simp; omega
      subst hf
      clear h0
      go_wp2_with fail
      go_region
      go_wp2_with fail
      go_ret2
      exact ⟨by rw [HR.out]; rfl, HK.out.drew⟩
  · have HR := Lib.hid (show r = false by rw [← HQ.out]; simp [hf])
    have hf' : (f1 == 0) = false := by simp [hf]
    clear hf
    go_wp2_with fail
    go_region
    go_wp2_with fail
    go_ret2
    exact ⟨by rw [HR.out]; rfl, HK.out.drew⟩
set_option maxHeartbeats 3200000 in
theorem rholds_c {w : World} {k : Nat} {v : Value} {xs : List UInt8} (h : RdB w v xs) (hl : xs.length ≤ 100000000000) : Calls Try.prog 82 #[n64 k, v] w fun e w' => e = .returned (.bool (holds k xs)) ∧ KpN w w' := by
  have H2 := rtwo_c h hl
  have H1 := rone_c h hl
  by_cases h6 : k = 6
  · subst h6
    rw [show holds 6 xs = (two xs).2.2 from rfl]
    generalize two xs = t at *
    obtain ⟨a, b, c⟩ := t
    clear H1
    go_enter Try.func82, Try.ntmps82
    go_wp2_with fail
    refine H2.mono ?_
    rintro e w1 ⟨rfl, k1⟩
    go_wp2_with fail
    go_ret
    exact ⟨rfl, k1⟩
  by_cases h7 : k = 7
  · subst h7
    rw [show holds 7 xs = (one xs).2 from rfl]
    generalize one xs = t at *
    obtain ⟨a, c⟩ := t
    clear H2 h6
    go_enter Try.func82, Try.ntmps82
    go_wp2_with fail
    refine H1.mono ?_
    rintro e w1 ⟨rfl, k1⟩
    go_wp2_with fail
    go_ret
    exact ⟨rfl, k1⟩
  by_cases h10 : k = 10
  · subst h10
    rw [show holds 10 xs = hopB xs from rfl]
    unfold hopB
    generalize two xs = t at *
    obtain ⟨a, b, c⟩ := t
    dsimp only at H2 ⊢
    obtain ⟨r, hr⟩ : ∃ r, (c && decide (1 ≤ a) && decide (a ≤ 255) && decide (b ≤ a)) = r := ⟨_, rfl⟩
    rw [hr]
    have HQ := Lib.hid hr
    clear H1 h6 h7 hr
    go_enter Try.func82, Try.ntmps82
    go_wp2_with fail
    refine H2.mono ?_
    rintro e w1 ⟨rfl, k1⟩
    clear H2
    rcases c with _ | _
    · have HR := Lib.hid (show r = false by rw [← HQ.out]; simp)
      go_wp2_with fail
      go_ret
      exact ⟨by rw [HR.out]; rfl, k1⟩
    · by_cases h1 : 1 ≤ a
      · by_cases h2 : a ≤ 255
        · by_cases h3 : b ≤ a
          · have HR := Lib.hid (show r = true by rw [← HQ.out]; simp [h1, h2, h3])
            have h1' : (1 : Int) ≤ (a : Int) := by omega
            have h2' : (a : Int) ≤ 255 := by omega
            have h3' : decide (b ≤ a) = true := by simp; omega
            clear h1 h2 h3
            go_wp2_with fail
            go_ret
            exact ⟨by rw [HR.out]; rfl, k1⟩
          · have HR := Lib.hid (show r = false by rw [← HQ.out]; simp [h3])
            have h1' : (1 : Int) ≤ (a : Int) := by omega
            have h2' : (a : Int) ≤ 255 := by omega
            have h3' : decide (b ≤ a) = false := by simp; omega
            clear h1 h2 h3
            go_wp2_with fail
            go_ret
            exact ⟨by rw [HR.out]; rfl, k1⟩
        · have HR := Lib.hid (show r = false by rw [← HQ.out]; simp [h2])
          have h1' : (1 : Int) ≤ (a : Int) := by omega
          have h2' : decide ((a : Int) ≤ 255) = false := by simp; omega
          clear h1 h2
          go_wp2_with fail
          go_ret
          exact ⟨by rw [HR.out]; rfl, k1⟩
      · have HR := Lib.hid (show r = false by rw [← HQ.out]; simp [h1])
        obtain rfl : a = 0 := by omega
        clear h1
        go_wp2_with fail
        go_ret
        exact ⟨by rw [HR.out]; rfl, k1⟩
  · have HR := Lib.hid (show holds k xs = true by unfold holds; rw [if_neg h6, if_neg h7, if_neg h10])
    have e6 : ((k : Int) == 6) = false := by simp; omega
    have e7 : ((k : Int) == 7) = false := by simp; omega
    have e10 : ((k : Int) == 10) = false := by simp; omega
    obtain ⟨r, hr⟩ : ∃ r, holds k xs = r := ⟨_, rfl⟩
    rw [hr] at HR ⊢
    clear H1 H2 h6 h7 h10 hr
    go_enter Try.func82, Try.ntmps82
    go_wp2_with fail
    go_ret
    exact ⟨by rw [HR.out]; rfl, Kp.refl _ _⟩
set_option maxHeartbeats 1600000 in
theorem rknown_c (w : World) (k : Nat) : Calls Try.prog 96 #[n64 k] w fun e w' => e = .returned (.bool (known k)) ∧ w = w' := by
  obtain ⟨r, hr⟩ : ∃ r, known k = r := ⟨_, rfl⟩
  rw [hr]
  by_cases h6 : k = 6
  · subst h6
    obtain rfl : r = true := by rw [← hr]; rfl
    clear hr
    go_enter Try.func96, Try.ntmps96
    go_wp2_with fail
    go_ret
    exact ⟨rfl, rfl⟩
  by_cases h7 : k = 7
  · subst h7
    obtain rfl : r = true := by rw [← hr]; rfl
    clear hr h6
    go_enter Try.func96, Try.ntmps96
    go_wp2_with fail
    go_ret
    exact ⟨rfl, rfl⟩
  by_cases h10 : k = 10
  · subst h10
    obtain rfl : r = true := by rw [← hr]; rfl
    clear hr h6 h7
    go_enter Try.func96, Try.ntmps96
    go_wp2_with fail
    go_ret
    exact ⟨rfl, rfl⟩
  · have HR := Lib.hid (show r = false by rw [← hr]; unfold known; simp [h6, h7, h10])
    have e6 : ((k : Int) == 6) = false := by simp; omega
    have e7 : ((k : Int) == 7) = false := by simp; omega
    have e10 : ((k : Int) == 10) = false := by simp; omega
    clear h6 h7 h10 hr
    go_enter Try.func96, Try.ntmps96
    go_wp2_with fail
    go_ret
    exact ⟨by rw [HR.out]; rfl, rfl⟩
end Go.Proofs.Yteokkpmndfekoaa
