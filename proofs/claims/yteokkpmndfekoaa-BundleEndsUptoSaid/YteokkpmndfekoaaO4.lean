/- AppendBytes (the seats without OctetLists). -/
import Derived.Test.YteokkpmndfekoaaO3
import Derived.Test.YteokkpmndfekoaaO2
namespace Go.Proofs.Yteokkpmndfekoaa
open Go Go.RowKit
set_option maxRecDepth 100000

/-- a list with its length ahead -/
def lb (ys : List UInt8) : List UInt8 := sd ys.length ++ ys
theorem lb_length (ys : List UInt8) (h : ys.length < 18446744073709551616) : (lb ys).length ≤ ys.length + 10 := by
  have := sd_length _ h
  simp [lb]
  omega
set_option maxHeartbeats 400000 in
theorem bytes_c {u v : Value} {xs ys : List UInt8} {w : World} (hu : RdB w u xs) (hv : RdB w v ys) (hb : xs.length + ys.length ≤ 10000000000) :
    Calls Try.prog 85 #[u, v] w (GotB 5 w (xs ++ lb ys)) := by
  have hl := sd_length ys.length (by omega)
  obtain ⟨A, c, rfl, hc⟩ := hu.form
  obtain ⟨B, d, rfl, hd⟩ := hv.form
  go_enter Try.func85, Try.ntmps85
  go_wp2_with fail
  refine (number_c hu (n := ys.length) (by omega) (by omega)).mono ?_
  rintro e w1 ⟨v1, rfl, o1, k1⟩
  obtain ⟨v2, w2, r2, o2, k2, _⟩ := run_appB (P := Try.prog) (ty := 27) w1 Try.underlying27 u8info o1 (hv.keepN k1) (by simp; omega)
  go_wp2_with (refine app_op r2 rfl rfl ?_)
  go_ret
  have hz1 := k1.size
  have hz2 := k2.size
  refine got_of ?_ (k1.fresh k2 (fun i hi => (o1.fit i hi).1))
  rw [List.append_assoc] at o2
  exact o2.wide (fun k hk h => ⟨by rcases h with h | h <;> have := h.1 <;> omega, hk⟩)
set_option maxHeartbeats 400000 in
theorem refBytes_c {u v : Value} {xs ys : List UInt8} {w : World} (hu : RdB w u xs) (hv : RdB w v ys) (hb : xs.length + ys.length ≤ 10000000000) :
    Calls Try.prog 86 #[u, v] w (GotB 5 w (xs ++ lb ys)) := by
  have hl := sd_length ys.length (by omega)
  obtain ⟨A, c, rfl, hc⟩ := hu.form
  obtain ⟨B, d, rfl, hd⟩ := hv.form
  go_enter Try.func86, Try.ntmps86
  go_wp2_with fail
  refine (refNumber_c hu (n := ys.length) (by omega) (by omega)).mono ?_
  rintro e w1 ⟨v1, rfl, o1, k1⟩
  obtain ⟨v2, w2, r2, o2, k2, _⟩ := run_appB (P := Try.prog) (ty := 27) w1 Try.underlying27 u8info o1 (hv.keepN k1) (by simp; omega)
  go_wp2_with (refine app_op r2 rfl rfl ?_)
  go_ret
  have hz1 := k1.size
  have hz2 := k2.size
  refine got_of ?_ (k1.fresh k2 (fun i hi => (o1.fit i hi).1))
  rw [List.append_assoc] at o2
  exact o2.wide (fun k hk h => ⟨by rcases h with h | h <;> have := h.1 <;> omega, hk⟩)
end Go.Proofs.Yteokkpmndfekoaa
