/- What was laid is read back: plain lists, no program. -/
import Derived.Test.YteokkpmndfekoaaP8
import Derived.Test.YteokkpmndfekoaaO4
namespace Go.Proofs.Yteokkpmndfekoaa

abbrev It := Bool × Nat × List UInt8
def itB (i : It) : List UInt8 := if i.1 then lb i.2.2 else sd i.2.1
def laidS (l : List It) : List UInt8 := (l.map itB).flatten
theorem lb_pos (ys : List UInt8) : 0 < (lb ys).length := by have := sd_pos ys.length; simp [lb]; omega
theorem itB_pos (i : It) : 0 < (itB i).length := by
  unfold itB
  split
  · exact lb_pos _
  · exact sd_pos _
theorem laid_append (a b : List It) : laidS (a ++ b) = laidS a ++ laidS b := by simp [laidS]
theorem laid_cons (x : It) (r : List It) : laidS (x :: r) = itB x ++ laidS r := by simp [laidS]
theorem laid_succ (l : List It) (j : Nat) (h : j < l.length) : laidS (l.take (j + 1)) = laidS (l.take j) ++ itB l[j] := by
  rw [List.take_succ_eq_append_getElem h, laid_append, laid_cons]
  simp [laidS]
theorem laid_split (l : List It) (j : Nat) (h : j < l.length) : laidS l = laidS (l.take j) ++ (itB l[j] ++ laidS (l.drop (j + 1))) := by
  have h1 : l = l.take j ++ (l[j] :: l.drop (j + 1)) := by rw [← List.drop_eq_getElem_cons h, List.take_append_drop]
  have h2 : laidS l = laidS (l.take j ++ (l[j] :: l.drop (j + 1))) := congrArg laidS h1
  rw [h2, laid_append, laid_cons]
theorem laid_le (l : List It) (j : Nat) : (laidS (l.take j)).length ≤ (laidS l).length := by
  have : laidS l = laidS (l.take j) ++ laidS (l.drop j) := by
    have h : laidS l = laidS (l.take j ++ l.drop j) := by rw [List.take_append_drop]
    rw [h, laid_append]
  rw [this]
  simp
theorem laid_drop (l : List It) (ext : List UInt8) (j : Nat) (h : j < l.length) : (laidS l ++ ext).drop (laidS (l.take j)).length = itB l[j] ++ (laidS (l.drop (j + 1)) ++ ext) := by
  rw [laid_split l j h]
  simp
theorem laid_len (l : List It) (m : Nat) (hm : ∀ i ∈ l, i.2.1 < 18446744073709551616 ∧ i.2.2.length < 18446744073709551616) (h : (l.map fun i => i.2.2.length + 1).sum ≤ m) : (laidS l).length ≤ 11 * m := by
  induction l generalizing m with
  | nil => simp [laidS]
  | cons i r ih =>
    have h0 := hm i (by simp)
    have h1 := ih (m - (i.2.2.length + 1)) (fun x hx => hm x (by simp [hx])) (by simp at h; omega)
    have h2 : (itB i).length ≤ i.2.2.length + 10 := by
      unfold itB
      split
      · exact lb_length _ h0.2
      · have := sd_length _ h0.1
        omega
    have h3 : laidS (i :: r) = itB i ++ laidS r := by simp [laidS]
    simp at h
    rw [h3, List.length_append]
    omega
theorem rNum_laid {xs r : List UInt8} {a n : Nat} (hn : n < 18446744073709551616) (h : xs.drop a = sd n ++ r) : rNum xs a 0 n = (n, a + (sd n).length, 0) := by
  rw [rNum, h, numS_sd n hn]
  simp
theorem rBytes_laid {xs ys r : List UInt8} {a : Nat} (hn : ys.length < 18446744073709551616) (h : xs.drop a = lb ys ++ r) : rBytes xs a 0 (ys.length : Int) = (ys, a + (lb ys).length, 0) := by
  have h' : xs.drop a = sd ys.length ++ (ys ++ r) := by rw [h, lb, List.append_assoc]
  have hN : numS (xs.drop a) = (ys.length, (sd ys.length).length, 0) := by rw [h', numS_sd _ hn]
  have hl : xs.length - a = (sd ys.length).length + (ys.length + r.length) := by rw [← List.length_drop, h']; simp
  have hr : rNum xs a 0 ys.length = (ys.length, a + (sd ys.length).length, 0) := rNum_laid hn h'
  have ht : rTake xs (a + (sd ys.length).length) 0 (ys.length : Int) = (ys, a + (lb ys).length, 0) := by
    rw [rTake, if_neg (by simp), if_neg (by omega), if_neg (by omega), Int.toNat_natCast, ← List.drop_drop, h']
    simp [lb, Nat.add_assoc]
  rw [rBytes, if_neg (by simp), if_neg (by omega), Int.toNat_natCast, hr]
  simp only [ht]
  simp
theorem sdH_high : ∀ (m j : Nat) (h : j < (sdH m).length), ¬ (sdH m)[j] < 128 := by
  intro m
  induction m using Nat.strongRecOn with
  | ind m ih =>
    intro j h
    by_cases hm : m = 0
    · subst hm
      rw [sdH_zero] at h
      simp at h
    · have hp := sdH_pos m (by omega)
      have key : ∀ (l : List UInt8) (hl : j < l.length), l = sdH (m / 128) ++ [UInt8.ofNat (m % 128 + 128)] → ¬ l[j] < 128 := by
        intro l hl e
        subst e
        rw [List.getElem_append]
        split
        · rename_i h1
          exact ih (m / 128) (by omega) j h1
        · have hj : j - (sdH (m / 128)).length = 0 := by simp at hl; omega
          simp only [hj, List.getElem_cons_zero]
          intro hlt
          have := u8_small _ hlt
          rw [u8_toNat _ (by omega)] at this
          omega
      exact key _ h hp
/-- without its last byte a number isn't all there -/
theorem sd_cut (n : Nat) (hn : n < 18446744073709551616) : numS ((sd n).dropLast) = (0, 0, 10) := by
  have hd : (sd n).dropLast = sdH (n / 128) := by simp [sd]
  have hl := sd_length n hn
  have hls : (sd n).length = (sdH (n / 128)).length + 1 := by simp [sd]
  rw [hd]
  refine numS_short _ (by omega) (fun j hj _ => ?_)
  exact sdH_high (n / 128) j hj
theorem rNum_cut {xs : List UInt8} {a n : Nat} (hn : n < 18446744073709551616) (h : xs.drop a = (sd n).dropLast) : rNum xs a 0 n = (0, a, 10) := by
  rw [rNum, h, sd_cut n hn]
  simp
theorem rBytes_cut {xs ys : List UInt8} {a : Nat} (hn : ys.length < 18446744073709551616) (h : xs.drop a = (lb ys).dropLast) : rBytes xs a 0 (ys.length : Int) = ([], a, 10) := by
  rcases List.eq_nil_or_concat ys with rfl | ⟨zs, z, rfl⟩
  · have hr : rNum xs a 0 0 = (0, a, 10) := rNum_cut (by omega) (by rw [h]; simp [lb])
    rw [rBytes, if_neg (by simp), if_neg (by simp)]
    simp only [List.length_nil, Int.toNat_natCast, hr]
    simp [rTake]
  · have hL : (zs.concat z).length = zs.length + 1 := by simp
    rw [hL] at hn ⊢
    have h' : xs.drop a = sd (zs.length + 1) ++ zs := by
      rw [h, lb, hL, List.concat_eq_append, ← List.append_assoc, List.dropLast_concat]
    have hN : numS (xs.drop a) = (zs.length + 1, (sd (zs.length + 1)).length, 0) := by rw [h', numS_sd _ hn]
    have hl : xs.length - a = (sd (zs.length + 1)).length + zs.length := by rw [← List.length_drop, h']; simp
    have hr : rNum xs a 0 (zs.length + 1) = (zs.length + 1, a + (sd (zs.length + 1)).length, 0) := rNum_laid hn h'
    have ht : rTake xs (a + (sd (zs.length + 1)).length) 0 ((zs.length + 1 : Nat) : Int) = ([], a + (sd (zs.length + 1)).length, 10) := by
      rw [rTake, if_neg (by simp), if_neg (by omega), if_pos (by omega)]
    rw [rBytes, if_neg (by simp), if_neg (by omega), Int.toNat_natCast, hr]
    simp only [ht]
    simp
/-- a Reader of what was laid, without its last byte, behind j items -/
def CutOk (l : List It) (j a : Nat) (f : Int) : Prop := (j = l.length → 0 < j → f = 10) ∧ (j < l.length → f = 0 ∧ a = (laidS (l.take j)).length)
theorem cut_drop (l : List It) (j : Nat) (h : j < l.length) : (j + 1 < l.length → ∃ r, (laidS l).dropLast.drop (laidS (l.take j)).length = itB l[j] ++ r) ∧ (j + 1 = l.length → (laidS l).dropLast.drop (laidS (l.take j)).length = (itB l[j]).dropLast) := by
  have hs := laid_split l j h
  have hne : itB l[j] ≠ [] := fun e => by have := itB_pos l[j]; rw [e] at this; simp at this
  refine ⟨fun h1 => ?_, fun h1 => ?_⟩
  · have h2 : laidS (l.drop (j + 1)) ≠ [] := fun e => by
      rw [List.drop_eq_getElem_cons h1] at e
      have := itB_pos l[j + 1]
      rw [laid_cons] at e
      have h3 := congrArg List.length e
      rw [List.length_append, List.length_nil] at h3
      omega
    refine ⟨(laidS (l.drop (j + 1))).dropLast, ?_⟩
    rw [hs, List.dropLast_append_of_ne_nil (by simp [hne]), List.drop_left, List.dropLast_append_of_ne_nil h2]
  · have h2 : laidS (l.drop (j + 1)) = [] := by rw [List.drop_eq_nil_of_le (by omega)]; rfl
    rw [hs, h2, List.append_nil, List.dropLast_append_of_ne_nil hne, List.drop_left]
theorem cut_step (l : List It) (j a : Nat) (f : Int) (h : j < l.length) (hc : CutOk l j a f) (hn : l[j].2.1 < 18446744073709551616) (hy : l[j].2.2.length < 18446744073709551616) :
    (l[j].1 = false → ∃ n' a' f', rNum (laidS l).dropLast a f l[j].2.1 = (n', a', f') ∧ CutOk l (j + 1) a' f') ∧ (l[j].1 = true → ∃ zs a' f', rBytes (laidS l).dropLast a f (l[j].2.2.length : Int) = (zs, a', f') ∧ CutOk l (j + 1) a' f') := by
  obtain ⟨rfl, rfl⟩ := hc.2 h
  have hd := cut_drop l j h
  have hs := laid_succ l j h
  refine ⟨fun hb => ?_, fun hb => ?_⟩
  · have hi : itB l[j] = sd l[j].2.1 := by rw [itB, hb]; simp
    rw [hi] at hd hs
    by_cases h1 : j + 1 < l.length
    · obtain ⟨r, hr⟩ := hd.1 h1
      exact ⟨_, _, _, rNum_laid hn hr, fun e => by omega, fun _ => ⟨rfl, by rw [hs, List.length_append]⟩⟩
    · exact ⟨_, _, _, rNum_cut hn (hd.2 (by omega)), fun _ _ => rfl, fun e => by omega⟩
  · have hi : itB l[j] = lb l[j].2.2 := by rw [itB, hb]; simp
    rw [hi] at hd hs
    by_cases h1 : j + 1 < l.length
    · obtain ⟨r, hr⟩ := hd.1 h1
      exact ⟨_, _, _, rBytes_laid hy hr, fun e => by omega, fun _ => ⟨rfl, by rw [hs, List.length_append]⟩⟩
    · exact ⟨_, _, _, rBytes_cut hy (hd.2 (by omega)), fun _ _ => rfl, fun e => by omega⟩
/-- a Reader of what was laid, and more, behind j items -/
theorem full_step (l : List It) (ext : List UInt8) (j : Nat) (h : j < l.length) (hn : l[j].2.1 < 18446744073709551616) (hy : l[j].2.2.length < 18446744073709551616) :
    (l[j].1 = false → rNum (laidS l ++ ext) (laidS (l.take j)).length 0 l[j].2.1 = (l[j].2.1, (laidS (l.take (j + 1))).length, 0)) ∧ (l[j].1 = true → rBytes (laidS l ++ ext) (laidS (l.take j)).length 0 (l[j].2.2.length : Int) = (l[j].2.2, (laidS (l.take (j + 1))).length, 0)) := by
  have hd := laid_drop l ext j h
  have hs := laid_succ l j h
  refine ⟨fun hb => ?_, fun hb => ?_⟩
  · have hi : itB l[j] = sd l[j].2.1 := by rw [itB, hb]; simp
    rw [hi] at hd hs
    rw [hs, List.length_append]
    exact rNum_laid hn hd
  · have hi : itB l[j] = lb l[j].2.2 := by rw [itB, hb]; simp
    rw [hi] at hd hs
    rw [hs, List.length_append]
    exact rBytes_laid hy hd
end Go.Proofs.Yteokkpmndfekoaa
