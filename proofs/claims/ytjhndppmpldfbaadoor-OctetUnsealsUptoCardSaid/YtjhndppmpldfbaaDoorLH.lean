/- OctetUnseals: what the call does. -/
import Derived.Test.YtjhndppmpldfbaaDoorOU2
import Derived.Test.YtjhndppmpldfbaaDoorOK
namespace Go.Proofs.YtjhndppmpldfbaaDoor
open Go Go.RowKit

set_option maxHeartbeats 1600000 in
theorem unsealLaw_c {v : Value} {xs : List UInt8} {w : World} (h : RdB w v xs) (ht : TabOk w) (hb : xs.length ≤ 10000000000) :
    Calls Tryd.prog 31 #[v] w fun e w' => e = .returned (.bool true) ∧ KpN w w' := by
  have hl := unsealS_length xs
  have hlt := turn_length xs
  obtain ⟨A, c, rfl, hc⟩ := h.form
  go_enter Tryd.func31, Tryd.ntmps31
  go_wp2_with fail
  refine (lent_c h (by omega)).mono ?_
  rintro e w1 ⟨all, rfl, o1, k1⟩
  obtain ⟨g, cap, rfl, hg, hcap, rall⟩ := lent_form o1
  have hz1 := k1.size
  have hcap' : xs.length ≤ cap := by omega
  have HL := Lib.hid hl
  have HLT := Lib.hid hlt
  clear hl hlt
  go_wp2_with fail
  refine (unseal_c rall (ht.keepN k1) (by omega)).mono ?_
  rintro e w2 ⟨x, rfl, o2, k2⟩
  have hz2 := k2.size
  go_wp2_with fail
  refine (refUnseal_c (h.keepN (k1.thenN k2)) (by omega)).mono ?_
  rintro e w3 ⟨y, rfl, o3, k3⟩
  have hz3 := k3.size
  have k03 := (k1.thenN k2).thenN k3
  have o23 := o2.keepN k3
  have o13 := o1.keepN (k2.thenN k3)
  have e2 := run_toStr (P := Tryd.prog) _ Tryd.underlying22 Tryd.underlying5 Tryd.underlying9 o23.readsB
  have e3 := run_toStr (P := Tryd.prog) _ Tryd.underlying22 Tryd.underlying5 Tryd.underlying9 o3.readsB
  go_wp2_with (first | (refine conv_op e2 rfl ?_) | (refine conv_op e3 rfl ?_) | fail)
  refine (errno_c _ _).mono ?_
  rintro e w4 ⟨rfl, rfl⟩
  go_wp2_with fail
  refine (stays_c o13.readsB (h.keepN k03) (by omega)).mono ?_
  rintro e w4 ⟨rfl, rfl⟩
  clear e2 e3
  go_wp2_with fail
  refine (turned_c o13 (by rfl) (by omega)).mono ?_
  rintro e w4 ⟨now, rfl, n4, o4, k4⟩
  have hz4 := k4.size
  have k04 : KpN w w4 := k03.fresh k4 (fun i h1 => by omega)
  have x4 := o23.keep k4 (fun i h1 h2 => by omega)
  have y4 := o3.keep k4 (fun i h1 h2 => by omega)
  have e2 := run_toStr (P := Tryd.prog) _ Tryd.underlying22 Tryd.underlying5 Tryd.underlying9 x4.readsB
  have e3 := run_toStr (P := Tryd.prog) _ Tryd.underlying22 Tryd.underlying5 Tryd.underlying9 y4.readsB
  go_wp2_with (first | (refine conv_op e2 rfl ?_) | (refine conv_op e3 rfl ?_) | fail)
  refine (spoils_c x4 (by have := HL.out; omega)).mono ?_
  rintro e w5 ⟨rfl, k5⟩
  clear e2 e3
  go_wp2_with fail
  refine (stays_c (o4.keep k5 (fun i h1 h2 => by omega)).readsB (n4.keep k5 (fun i h1 h2 => by omega)).readsB (by have := HLT.out; omega)).mono ?_
  rintro e w6 ⟨rfl, rfl⟩
  go_wp2
  go_ret
  exact ⟨rfl, k04.fresh k5 (fun i h1 => by omega)⟩
set_option maxHeartbeats 1600000 in
theorem unseals_walk {v : Value} {xs : List UInt8} {w : World} (h : RdB w v xs) (ht : TabOk w) (hb : xs.length ≤ 1000000000) :
    Calls Tryd.prog 9 #[v] w fun e w' => e = .returned (.bool true) ∧ KpN w w' := by
  have HL := Lib.hid (sl_length xs)
  obtain ⟨A, c, rfl, hc⟩ := h.form
  go_enter Tryd.func9, Tryd.ntmps9
  go_wp2_with fail
  refine (knows_c ht).mono ?_
  rintro e w1 ⟨rfl, k1⟩
  go_wp2_with fail
  refine (unsealLaw_c (h.keepN k1) (ht.keepN k1) (by omega)).mono ?_
  rintro e w2 ⟨rfl, k2⟩
  have k02 := k1.thenN k2
  go_wp2_with fail
  refine (refSealed_c (h.keepN k02) (by omega)).mono ?_
  rintro e w3 ⟨s, rfl, o3, k3⟩
  have k03 := k02.thenN k3
  go_wp2_with fail
  refine (unsealLaw_c o3.readsB (ht.keepN k03) (by rw [List.length_append, HL.out]; omega)).mono ?_
  rintro e w4 ⟨rfl, k4⟩
  go_wp2
  go_ret
  exact ⟨rfl, k03.thenN k4⟩
end Go.Proofs.YtjhndppmpldfbaaDoor
