/- What Unseal tells. -/
import Derived.Test.YteokkpmndfekoaaDoorOU
namespace Go.Proofs.YteokkpmndfekoaaDoor
open Go Go.RowKit
set_option maxRecDepth 100000

theorem unsealS_seal (xs : List UInt8) : unsealS (xs ++ sl xs) = (xs, 0) := by
  have h4 := sl_length xs
  have hl : (xs ++ sl xs).length = xs.length + 4 := by rw [List.length_append, h4]
  rw [unsealS, if_neg (by omega), show (xs ++ sl xs).length - 4 = xs.length by omega, List.take_left, List.drop_left, if_pos rfl]
theorem unsealS_ok {xs y : List UInt8} (h : unsealS xs = (y, 0)) : y ++ sl y = xs := by
  unfold unsealS at h
  split at h
  · simp at h
  · split at h
    · rename_i hq
      obtain ⟨rfl, -⟩ := Prod.mk.inj h
      rw [hq, List.take_append_drop]
    · simp at h
theorem unsealS_bad {xs y : List UInt8} {e : Nat} (h : unsealS xs = (y, e)) (he : e ≠ 0) : y = [] ∧ (e = 13 ∨ (e = 10 ∧ xs.length < 4)) := by
  unfold unsealS at h
  split at h
  · rename_i hs
    obtain ⟨rfl, rfl⟩ := Prod.mk.inj h
    exact ⟨rfl, .inr ⟨rfl, hs⟩⟩
  · split at h
    · obtain ⟨rfl, rfl⟩ := Prod.mk.inj h
      exact absurd rfl he
    · obtain ⟨rfl, rfl⟩ := Prod.mk.inj h
      exact ⟨rfl, .inl rfl⟩
end Go.Proofs.YteokkpmndfekoaaDoor
