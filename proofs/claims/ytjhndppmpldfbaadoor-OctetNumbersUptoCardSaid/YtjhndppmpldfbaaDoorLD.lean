/- OctetNames and OctetNumbers: what the calls do. -/
import Derived.Test.YtjhndppmpldfbaaDoorOK
import Derived.Test.YtjhndppmpldfbaaDoorON2
namespace Go.Proofs.YtjhndppmpldfbaaDoor
open Go Go.RowKit

set_option maxHeartbeats 1600000 in
theorem names_walk {w : World} (ht : TabOk w) :
    Calls Tryd.prog 4 #[] w fun e w' => e = .returned (.bool true) ∧ KpN w w' := by
  go_enter Tryd.func4, Tryd.ntmps4
  go_wp2_with (first | (refine (errno_c _ _).mono ?_; rintro e w2 ⟨rfl, rfl⟩) | fail)
  refine (knows_c ht).mono ?_
  rintro e w1 ⟨rfl, k1⟩
  go_wp2
  go_ret
  exact ⟨rfl, k1⟩

set_option maxHeartbeats 1600000 in
theorem number_walk {v : Value} {xs : List UInt8} {w : World} (h : RdB w v xs) (hb : xs.length ≤ 100000000000) :
    Calls Tryd.prog 26 #[v] w fun e w' => e = .returned (.bool true) ∧ KpN w w' := by
  have hlt := turn_length xs
  rcases hN : numS xs with ⟨n, k, e⟩
  rcases hM : numS (turn xs) with ⟨n', k', e'⟩
  obtain ⟨A, c, rfl, hc⟩ := h.form
  go_enter Tryd.func26, Tryd.ntmps26
  go_wp2_with fail
  refine (lent_c h (by omega)).mono ?_
  rintro e w1 ⟨all, rfl, o1, k1⟩
  obtain ⟨g, cap, rfl, hg, hcap, rall⟩ := lent_form o1
  have hz1 := k1.size
  have hcap' : xs.length ≤ cap := by omega
  have HLT := Lib.hid hlt
  have HN := Lib.hid hN
  have HM := Lib.hid hM
  clear hlt hN hM
  go_wp2_with fail
  refine (num_c rall (by omega)).mono ?_
  rintro e w2 ⟨rfl, rfl⟩
  rw [HN.out, num3]
  go_wp2_with fail
  refine (refNum_c (h.keepN k1) (by omega)).mono ?_
  rintro e w2 ⟨rfl, rfl⟩
  rw [HN.out, num3]
  go_wp2_with (first | (refine (errno_c _ _).mono ?_; rintro e w2 ⟨rfl, rfl⟩) | fail)
  refine (stays_c o1.readsB (h.keepN k1) (by omega)).mono ?_
  rintro e w2 ⟨rfl, rfl⟩
  go_wp2_with fail
  have hl := HLT.out
  refine (turned_c o1 (by rfl) (by omega)).mono ?_
  rintro e w2 ⟨now, rfl, n2, o2, k2⟩
  have hz2 := k2.size
  clear hl
  go_wp2_with fail
  have hl := HLT.out
  refine (num_c (turned_front o2) (by omega)).mono ?_
  rintro e w3 ⟨rfl, rfl⟩
  rw [HM.out, num3]
  clear hl
  go_wp2_with fail
  have hl := HLT.out
  refine (refNum_c n2.readsB (by omega)).mono ?_
  rintro e w3 ⟨rfl, rfl⟩
  rw [HM.out, num3]
  clear hl
  go_wp2_with (first | (refine (errno_c _ _).mono ?_; rintro e w2 ⟨rfl, rfl⟩) | fail)
  go_ret
  exact ⟨rfl, k1.fresh k2 (fun i h1 => by omega)⟩
set_option maxHeartbeats 1600000 in
theorem numbers_walk {v : Value} {xs : List UInt8} {w : World} (h : RdB w v xs) (ht : TabOk w) (hb : xs.length ≤ 100000000000) :
    Calls Tryd.prog 5 #[v] w fun e w' => e = .returned (.bool true) ∧ KpN w w' := by
  obtain ⟨A, c, rfl, hc⟩ := h.form
  go_enter Tryd.func5, Tryd.ntmps5
  go_wp2_with fail
  refine (knows_c ht).mono ?_
  rintro e w1 ⟨rfl, k1⟩
  go_wp2_with fail
  refine (number_walk (h.keepN k1) hb).mono ?_
  rintro e w2 ⟨rfl, k2⟩
  go_wp2
  go_ret
  exact ⟨rfl, k1.thenN k2⟩
end Go.Proofs.YtjhndppmpldfbaaDoor
