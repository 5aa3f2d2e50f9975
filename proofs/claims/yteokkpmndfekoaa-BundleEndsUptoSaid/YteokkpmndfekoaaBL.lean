/- Frames as data; does one fit (the document's); the bytes of a hop. -/
import Derived.Test.YteokkpmndfekoaaBE
import Derived.Test.YteokkpmndfekoaaO3
namespace Go.Proofs.Yteokkpmndfekoaa
open Go Go.RowKit
set_option maxRecDepth 100000

/-- a frame's value -/
abbrev frV (s : Int) (ti sq li : Nat) (v : Value) : Value := .agg #[.int .i64 s, n64 ti, n64 sq, n64 li, v]
abbrev maxN : Nat := 281474976710655
def fitsW (s : Int) (ti sq li : Nat) : Bool := decide (0 ≤ s) && decide (s < 8) && decide (ti ≤ maxN) && decide (sq ≤ maxN) && decide (li ≤ maxN)
set_option maxHeartbeats 3200000 in
theorem fits_c (w : World) (s : Int) (ti sq li : Nat) (A : Option Addr) (n c : Nat) : Calls Try.prog 37 #[frV s ti sq li (.slice A n c)] w (fun e w' => e = .returned (.bool (fitsW s ti sq li)) ∧ KpN w w') := by
  have kb : KpN w (w.alloc (.cells #[.int .i64 s, n64 ti, n64 sq, n64 li, .slice A n c] 47)) := (Kp.refl _ w).alloc _
  by_cases h1 : 0 ≤ s
  · by_cases h2 : s < 8
    · by_cases h3 : ((ti : Nat) : Int) ≤ 281474976710655
      · by_cases h4 : ((sq : Nat) : Int) ≤ 281474976710655
        · by_cases h5 : ((li : Nat) : Int) ≤ 281474976710655
          · have hv : fitsW s ti sq li = true := by simp [fitsW, maxN]; omega
            rw [hv]; clear hv
            go_enter Try.func37, Try.ntmps37
            go_wp2_with fail
            go_ret
            exact ⟨rfl, kb⟩
          · have hv : fitsW s ti sq li = false := by simp [fitsW, maxN]; omega
            rw [hv]; clear hv
            go_enter Try.func37, Try.ntmps37
            go_wp2_with fail
            go_ret
            exact ⟨rfl, kb⟩
        · have hv : fitsW s ti sq li = false := by simp [fitsW, maxN]; omega
          rw [hv]; clear hv
          go_enter Try.func37, Try.ntmps37
          go_wp2_with fail
          go_ret
          exact ⟨rfl, kb⟩
      · have hv : fitsW s ti sq li = false := by simp [fitsW, maxN]; omega
        rw [hv]; clear hv
        go_enter Try.func37, Try.ntmps37
        go_wp2_with fail
        go_ret
        exact ⟨rfl, kb⟩
    · have hv : fitsW s ti sq li = false := by simp [fitsW, maxN]; omega
      rw [hv]; clear hv
      go_enter Try.func37, Try.ntmps37
      go_wp2_with fail
      go_ret
      exact ⟨rfl, kb⟩
  · have hv : fitsW s ti sq li = false := by simp [fitsW, maxN]; omega
    rw [hv]; clear hv
    go_enter Try.func37, Try.ntmps37
    go_wp2_with fail
    go_ret
    exact ⟨rfl, kb⟩
set_option maxHeartbeats 3200000 in
theorem hlaid_c (w : World) (a b : Nat) (ha : U64 a) (hb : U64 b) : Calls Try.prog 41 #[.agg #[n64 a, n64 b]] w (GotB 5 w (sd a ++ sd b)) := by
  have kb : KpN w (w.alloc (.cells #[n64 a, n64 b] 91)) := (Kp.refl _ w).alloc _
  have hx := CellsAt.new w [n64 a, n64 b] 91
  have hz1 : (w.alloc (.cells #[n64 a, n64 b] 91)).heap.size = w.heap.size + 1 := by simp
  obtain ⟨w1, hw1⟩ : ∃ w1, w.alloc (.cells #[n64 a, n64 b] 91) = w1 := ⟨_, rfl⟩
  rw [hw1] at kb hz1
  rw [show (w.alloc (.cells ([n64 a, n64 b] : List Value).toArray 91)) = w1 from hw1] at hx
  have HW1 := Lib.hid hw1
  have HX := Lib.hid (And.intro hx (And.intro ha hb))
  have HZ := Lib.hid hz1
  have hsd := sd_length a ha
  clear hx hw1 ha hb hz1
  go_enter Try.func41, Try.ntmps41
  go_wp2_with fail
  rw [HW1.out]
  refine rg_begin 7 (fun _ => False) (by kernel_rfl) (fun w2 d2 => ?_)
  have hz2 := d2.size
  have h2 := HX.out.1.keep (by have := HZ.out; omega) d2 (fun x => x)
  have hlt2 : w.heap.size < w2.heap.size := by have := HZ.out; omega
  have hc1 := number_c (n := a) (RdB.nil w2) HX.out.2.1 (by simp)
  refine rg_take 0 (d := (some 3)) (v := .pointer (some ⟨w.heap.size, 0, none⟩)) (by decide) rfl rfl (by kernel_rfl) (by kernel_rfl) (by kernel_rfl) (fun _ _ _ h => h) rfl (fun W => by go_simp) ?_
  conv => arg 8; simp only [Act.put, List.setIfInBounds_toArray, List.set_cons_zero, List.set_cons_succ]
  refine rg_read 1 (d := (some 4)) (v := n64 a) (by decide) (by kernel_rfl) (by kernel_rfl) rfl rfl (by kernel_rfl) (by kernel_rfl) (by kernel_rfl) (fun _ _ _ h => h) rfl (fun W hW => by have hc := (hW.cell (p := ⟨w.heap.size, 0, none⟩) (hlt2) (fun x => x)).trans (h2.at_ 0 rfl); go_simp) ?_
  conv => arg 8; simp only [Act.put, List.setIfInBounds_toArray, List.set_cons_zero, List.set_cons_succ]
  refine rg_take 3 (d := (some 6)) (v := .pointer (some ⟨w.heap.size, 1, none⟩)) (by decide) rfl rfl (by kernel_rfl) (by kernel_rfl) (by kernel_rfl) (fun _ _ _ h => h) rfl (fun W => by go_simp) ?_
  conv => arg 8; simp only [Act.put, List.setIfInBounds_toArray, List.set_cons_zero, List.set_cons_succ]
  refine rg_read 4 (d := (some 7)) (v := n64 b) (by decide) (by kernel_rfl) (by kernel_rfl) rfl rfl (by kernel_rfl) (by kernel_rfl) (by kernel_rfl) (fun _ _ _ h => h) rfl (fun W hW => by have hc := (hW.cell (p := ⟨w.heap.size, 1, none⟩) (hlt2) (fun x => x)).trans (h2.at_ 1 rfl); go_simp) ?_
  conv => arg 8; simp only [Act.put, List.setIfInBounds_toArray, List.set_cons_zero, List.set_cons_succ]
  refine rg_call 2 (d := (some 5)) (by kernel_rfl) (hc1) rfl rfl (by kernel_rfl) rfl rfl ?_
  rintro e w3 ⟨u3, rfl, o3, k3⟩
  refine ⟨_, rfl, k3, ?_⟩
  conv => arg 8; simp only [Act.put, List.setIfInBounds_toArray, List.set_cons_zero, List.set_cons_succ]
  have hc2 := number_c (n := b) o3.readsB HX.out.2.2 (by simp; omega)
  refine rg_call 5 (d := (some 8)) (by kernel_rfl) (hc2) rfl rfl (by kernel_rfl) rfl rfl ?_
  rintro e w4 ⟨u4, rfl, o4, k4⟩
  refine ⟨_, rfl, k4, ?_⟩
  conv => arg 8; simp only [Act.put, List.setIfInBounds_toArray, List.set_cons_zero, List.set_cons_succ]
  refine rg_take 6 (d := (some 2)) (v := u4) (by decide) rfl rfl (by kernel_rfl) (by kernel_rfl) (by kernel_rfl) (fun _ _ _ h => h) rfl (fun W => rfl) ?_
  conv => arg 8; simp only [Act.put, List.setIfInBounds_toArray, List.set_cons_zero, List.set_cons_succ]
  refine rg_done (by kernel_rfl) ?_
  go_wp2_with fail
  go_ret
  refine ⟨u4, rfl, ?_, ((kb.thenN d2).thenN k3).thenN k4⟩
  have := k3.size
  have := HZ.out
  simp only [List.nil_append] at o4
  exact o4.wide (fun i hi hf => ⟨by have := hf.1; omega, hi⟩)
end Go.Proofs.Yteokkpmndfekoaa
