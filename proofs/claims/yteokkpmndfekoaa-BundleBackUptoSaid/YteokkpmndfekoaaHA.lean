/- BundleBack: what is written is read back. Plain lists, no program. -/
import Derived.Test.YteokkpmndfekoaaGK
namespace Go.Proofs.Yteokkpmndfekoaa

theorem laid_pos (b : Bdl) : 0 < (laid b).length := by
  unfold laid headL
  simp only [List.length_append, List.length_cons]
  omega
theorem enc_laid {b : Bdl} (h : valE b = 0) : encB b = laid b := by
  unfold encB
  rw [if_pos h]
theorem dec_back {b : Bdl} (h : valE b = 0) : decE (laid b) = 0 ∧ decB (laid b) = b := by
  obtain ⟨hg, hl⟩ := valE_zero h
  have hd := dec_laid hg []
  rw [List.append_nil, if_pos rfl] at hd
  have hE : decE (laid b) = 0 := by
    unfold decE
    rw [if_neg (by omega), hd]
  refine ⟨hE, ?_⟩
  unfold decB
  rw [if_pos hE, hd]
theorem dec_less {b : Bdl} (h : valE b = 0) : decE (laid b).dropLast = 10 := by
  obtain ⟨hg, hl⟩ := valE_zero h
  unfold decE
  rw [if_neg (by rw [List.length_dropLast]; omega), dec_cut hg]
theorem dec_more {b : Bdl} (h : valE b = 0) : decE (laid b ++ [0]) = if (laid b).length = 1024 then 81 else 11 := by
  obtain ⟨hg, hl⟩ := valE_zero h
  have hd := dec_laid hg [0]
  rw [if_neg (by simp)] at hd
  unfold decE
  rw [List.length_append, List.length_singleton, hd]
  by_cases e : (laid b).length = 1024
  · rw [if_pos (by omega), if_pos e]
  · rw [if_neg (by omega), if_neg e]
theorem dec_good {xs : List UInt8} (h : decE xs = 0) : valE (decB xs) = 0 ∧ encB (decB xs) = xs := by
  have hb : decB xs = (decAll xs).1 := by
    unfold decB
    rw [if_pos h]
  unfold decE at h
  split at h
  · simp at h
  · rename_i hl
    obtain ⟨hg, hx⟩ := dec_inv h
    have hv : valE (decAll xs).1 = 0 := by
      unfold valE
      rw [if_pos hg, hx, if_neg hl]
    rw [hb]
    exact ⟨hv, (enc_laid hv).trans hx⟩
end Go.Proofs.Yteokkpmndfekoaa
