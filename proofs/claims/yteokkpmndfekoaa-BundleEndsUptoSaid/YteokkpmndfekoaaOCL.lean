/- slices.Clone at []byte. -/
import Derived.Test.YteokkpmndfekoaaB0
namespace Go.Proofs.Yteokkpmndfekoaa
open Go Go.RowKit
set_option maxRecDepth 100000

set_option maxHeartbeats 400000 in
theorem clone_c {v : Value} {xs : List UInt8} {w : World} (h : RdB w v xs) (hb : xs.length ≤ 1000000000000) :
    Calls Try.prog 73 #[v] w (GotB 5 w xs) := by
  obtain ⟨A, c, rfl, hc⟩ := h.form
  have q := Lib.run_eql_slice_nil (P := Try.prog) w 27 5 A xs.length c 0 0 Try.underlying27
  have q0 := Lib.run_eql_slice_nil (P := Try.prog) w 27 5 none 0 c 0 0 Try.underlying27
  rcases A with _ | ad
  · have hx : xs = [] := by
      rcases xs with _ | ⟨x, xs⟩
      · rfl
      · obtain ⟨ad, h1, _⟩ := h.at_ 0 (by simp)
        cases h1
    subst hx
    clear h
    go_enter Try.func73, Try.ntmps73
    go_wp2
    go_ret
    exact got_of (OwB.nil _ _ _) (Kp.refl _ _)
  · clear q0
    obtain ⟨v1, w1, r1, o1, k1, _⟩ := run_appB (P := Try.prog) (ty := 27) (w.alloc (.cells #[] 5)) Try.underlying27 u8info (xs := []) (OwC.empty w 5 1) (h.keepN ((Kp.refl _ _).alloc _)) (by simp; omega)
    go_enter Try.func73, Try.ntmps73
    go_wp2_with (refine app_op r1 rfl rfl ?_)
    go_ret
    exact got_of (o1.wide (fun k hk h => ⟨by have := alloc_size w (.cells #[] 5); rcases h with h | h <;> have := h.1 <;> omega, hk⟩)) (((Kp.refl _ _).alloc _).fresh k1 (fun i hi => by have := (OwC.empty w 5 1).fit i hi; exact this.1))
end Go.Proofs.Yteokkpmndfekoaa
