/- What a Reader goes over: plain lists, no program. -/
import Derived.Test.YteokkpmndfekoaaP4
import Derived.Test.YteokkpmndfekoaaOR2
namespace Go.Proofs.Yteokkpmndfekoaa

theorem take_add (xs : List UInt8) (a k : Nat) : xs.take a ++ (xs.drop a).take k = xs.take (a + k) := by
  rw [List.take_add]
theorem rNum_over {xs : List UInt8} {a most n a' : Nat} {f f' : Int} (h : rNum xs a f most = (n, a', f')) : (f' = 0 → xs.take a ++ sd n = xs.take a') ∧ (f' ≠ 0 → a' = a) := by
  unfold rNum at h
  obtain ⟨m, k, e, hN⟩ : ∃ m k e, numS (xs.drop a) = (m, k, e) := ⟨_, _, _, rfl⟩
  rw [hN] at h
  simp only at h
  split at h
  · obtain ⟨rfl, rfl, rfl⟩ : 0 = n ∧ a = a' ∧ f = f' := by simpa using h
    exact ⟨fun h0 => by contradiction, fun _ => rfl⟩
  · split at h
    · obtain ⟨rfl, rfl, rfl⟩ : 0 = n ∧ a = a' ∧ (e : Int) = f' := by simpa using h
      exact ⟨fun h0 => absurd h0 (by omega), fun _ => rfl⟩
    · rename_i he
      split at h
      · obtain ⟨rfl, rfl, rfl⟩ : 0 = n ∧ a = a' ∧ 12 = f' := by simpa using h
        exact ⟨fun h0 => absurd h0 (by omega), fun _ => rfl⟩
      · obtain ⟨rfl, rfl, rfl⟩ : m = n ∧ a + k = a' ∧ 0 = f' := by simpa using h
        have he0 : e = 0 := by omega
        subst he0
        have hi := numS_inv hN
        refine ⟨fun _ => ?_, fun h0 => absurd rfl h0⟩
        rw [← hi.2.2.2, take_add]
theorem rTake_over {xs ys : List UInt8} {a a' : Nat} {f f' n : Int} (h : rTake xs a f n = (ys, a', f')) : xs.take a ++ ys = xs.take a' ∧ (f' ≠ 0 → a' = a) := by
  unfold rTake at h
  split at h
  · obtain ⟨rfl, rfl, rfl⟩ : [] = ys ∧ a = a' ∧ f = f' := by simpa using h
    exact ⟨by simp, fun _ => rfl⟩
  · split at h
    · obtain ⟨rfl, rfl, rfl⟩ : [] = ys ∧ a = a' ∧ 1 = f' := by simpa using h
      exact ⟨by simp, fun _ => rfl⟩
    · split at h
      · obtain ⟨rfl, rfl, rfl⟩ : [] = ys ∧ a = a' ∧ 10 = f' := by simpa using h
        exact ⟨by simp, fun _ => rfl⟩
      · obtain ⟨rfl, rfl, rfl⟩ : (xs.drop a).take n.toNat = ys ∧ a + n.toNat = a' ∧ 0 = f' := by simpa using h
        exact ⟨take_add _ _ _, fun h0 => absurd rfl h0⟩
theorem rTake_ok {xs ys : List UInt8} {a a' n : Nat} {f : Int} (h : rTake xs a f (n : Int) = (ys, a', 0)) : f = 0 ∧ ys.length = n ∧ a' = a + n := by
  unfold rTake at h
  split at h
  · rename_i hf
    have : f = 0 := by have := congrArg (·.2.2) h; simpa using this
    exact absurd this hf
  · rename_i hf
    split at h
    · have := congrArg (·.2.2) h; simp at this
    · split at h
      · have := congrArg (·.2.2) h; simp at this
      · rename_i h2
        obtain ⟨rfl, rfl, -⟩ : (xs.drop a).take n = ys ∧ a + n = a' ∧ True := by simpa using h
        exact ⟨by omega, by simp; omega, rfl⟩
theorem rBytes_over {xs ys : List UInt8} {a a' : Nat} {f f' most : Int} (h : rBytes xs a f most = (ys, a', f')) : (f' = 0 → xs.take a ++ (sd ys.length ++ ys) = xs.take a') ∧ (f' ≠ 0 → a' = a) := by
  unfold rBytes at h
  split at h
  · obtain ⟨rfl, rfl, rfl⟩ : [] = ys ∧ a = a' ∧ f = f' := by simpa using h
    exact ⟨fun h0 => by contradiction, fun _ => rfl⟩
  · split at h
    · obtain ⟨rfl, rfl, rfl⟩ : [] = ys ∧ a = a' ∧ 1 = f' := by simpa using h
      exact ⟨fun h0 => absurd h0 (by omega), fun _ => rfl⟩
    · obtain ⟨n, a1, f1, hN⟩ : ∃ n a1 f1, rNum xs a 0 most.toNat = (n, a1, f1) := ⟨_, _, _, rfl⟩
      obtain ⟨zs, a2, f2, hT⟩ : ∃ zs a2 f2, rTake xs a1 f1 (n : Int) = (zs, a2, f2) := ⟨_, _, _, rfl⟩
      rw [hN] at h
      simp only [hT] at h
      split at h
      · rename_i hf2
        obtain ⟨rfl, rfl, rfl⟩ : zs = ys ∧ a = a' ∧ f2 = f' := by simpa using h
        exact ⟨fun h0 => absurd h0 hf2, fun _ => rfl⟩
      · rename_i hf2
        obtain ⟨rfl, rfl, rfl⟩ : zs = ys ∧ a2 = a' ∧ f2 = f' := by simpa using h
        have hz : f2 = 0 := by omega
        subst hz
        obtain ⟨hf1, hl, -⟩ := rTake_ok hT
        refine ⟨fun _ => ?_, fun h0 => absurd rfl h0⟩
        rw [hl, ← List.append_assoc, (rNum_over hN).1 hf1, (rTake_over hT).1]
theorem rTake_len {xs ys : List UInt8} {a a' : Nat} {f f' n : Int} (h : rTake xs a f n = (ys, a', f')) : ys.length ≤ xs.length := by
  unfold rTake at h
  split at h
  · obtain ⟨rfl, -, -⟩ : [] = ys ∧ a = a' ∧ f = f' := by simpa using h
    simp
  · split at h
    · obtain ⟨rfl, -, -⟩ : [] = ys ∧ a = a' ∧ 1 = f' := by simpa using h
      simp
    · split at h
      · obtain ⟨rfl, -, -⟩ : [] = ys ∧ a = a' ∧ 10 = f' := by simpa using h
        simp
      · obtain ⟨rfl, -, -⟩ : (xs.drop a).take n.toNat = ys ∧ a + n.toNat = a' ∧ 0 = f' := by simpa using h
        simp
        omega
theorem rBytes_len {xs ys : List UInt8} {a a' : Nat} {f f' n : Int} (h : rBytes xs a f n = (ys, a', f')) : ys.length ≤ xs.length := by
  unfold rBytes at h
  split at h
  · obtain ⟨rfl, -, -⟩ : [] = ys ∧ a = a' ∧ f = f' := by simpa using h
    simp
  · split at h
    · obtain ⟨rfl, -, -⟩ : [] = ys ∧ a = a' ∧ 1 = f' := by simpa using h
      simp
    · obtain ⟨n1, a1, f1, hN⟩ : ∃ n1 a1 f1, rNum xs a 0 n.toNat = (n1, a1, f1) := ⟨_, _, _, rfl⟩
      obtain ⟨zs, a2, f2, hT⟩ : ∃ zs a2 f2, rTake xs a1 f1 (n1 : Int) = (zs, a2, f2) := ⟨_, _, _, rfl⟩
      have hl := rTake_len hT
      rw [hN] at h
      simp only [hT] at h
      split at h
      · obtain ⟨rfl, -, -⟩ : zs = ys ∧ a = a' ∧ f2 = f' := by simpa using h
        exact hl
      · obtain ⟨rfl, -, -⟩ : zs = ys ∧ a2 = a' ∧ f2 = f' := by simpa using h
        exact hl
end Go.Proofs.Yteokkpmndfekoaa
