/- A keeper's book in memory: a Crash; a step. -/
import Derived.Test.YthkbgbbejgpeaaaJU
namespace Go.Proofs.Ythkbgbbejgpeaaa
open Go Go.RowKit
set_option maxRecDepth 100000

set_option maxHeartbeats 6400000 in
theorem step_crash {w0 w : World} {F B : Nat → Prop} {kb g k : Nat} {d : Dk} {mv : Value} {ls : List (Value × List Int)} {next : Nat} {At : Int} {A : Option Addr} {n c : Nat} {ch : List Int} (h : KS w0 w F B kb g k d mv ls next) (hk : k ≤ 100000000) (hch : RdI w0 (.slice A n c) ch) (hci : ∀ z ∈ ch, I64 z) (hn : n ≤ 100000000) :
    Calls Try.prog 38 #[ptrD kb, .agg #[.int .i64 3, .int .i64 At, .slice A n c]] w (StepK w0 kb g k next d.n) := by
  have hll := h.ls_len
  have hn1 := h.dk.n1
  have hn2 := h.dk.n2
  obtain ⟨L, hL⟩ : ∃ L, ls.length = L := ⟨_, rfl⟩
  obtain ⟨mb, mc, hmv, -, -⟩ := h.bk.own.form (by omega)
  rw [hL] at hmv
  subst hmv
  have hLm : L ≤ 65536 := by omega
  have kb1 := (Kp.refl (fun _ => False) w).alloc (.cells #[.int .i64 3, .int .i64 At, .slice A n c] 57)
  have cb0 : (w.alloc (.cells #[.int .i64 3, .int .i64 At, .slice A n c] 57)).cell? ⟨w.heap.size, 0, none⟩ = some (.int .i64 3) := by
    rw [cell_of_row _ _ _ _ _ _ (heap_alloc_new _ _)]
    rfl
  have cb2 : (w.alloc (.cells #[.int .i64 3, .int .i64 At, .slice A n c] 57)).cell? ⟨w.heap.size, 2, none⟩ = some (.slice A n c) := by
    rw [cell_of_row _ _ _ _ _ _ (heap_alloc_new _ _)]
    rfl
  have h1 := h.keepN kb1
  have hzw : w.heap.size < (w.alloc (.cells #[.int .i64 3, .int .i64 At, .slice A n c] 57)).heap.size := by simp
  obtain ⟨w1, hw1⟩ : ∃ w1, w.alloc (.cells #[.int .i64 3, .int .i64 At, .slice A n c] 57) = w1 := ⟨_, rfl⟩
  rw [hw1] at kb1 h1 cb2 hzw
  have hlens : ∀ l ∈ ls, 0 < l.2.length ∧ l.2.length ≤ 1000000000 := fun l hl => by
    obtain ⟨j, hj, rfl⟩ := List.mem_iff_getElem.1 hl
    have hj' : j < (ls.map Prod.snd).length := by simpa using hj
    have hE := h1.ok.each j hj'
    have h3 := hE.ca_len
    have h4 := h1.dk.cnt j (by omega)
    have h5 := hE.pos
    simp at h3 h5
    exact ⟨h5, by omega⟩
  have HNF := Lib.hid (show ¬ F w.heap.size from fun hF => by have := (h.fl _ hF).2; omega)
  have HW1 := Lib.hid hw1
  have H1 := Lib.hid h1
  have HM := Lib.hid (And.intro hlens (And.intro hL hch))
  clear h hll hL hw1 h1 hlens hch
  go_enter Try.func38, Try.ntmps38
  go_wp2_with fail
  rw [HW1.out]
  refine rg_begin 7 (fun b => F b) (by kernel_rfl) (fun w2 d2 => ?_)
  have h2 := H1.out.keepN d2
  have hz2 := d2.size
  have cb22 : w2.cell? ⟨w.heap.size, 2, none⟩ = some (.slice A n c) := by rw [d2.cell hzw (fun x => x)]; exact cb2
  have hnF := HNF.out
  have hcx := crash_x (ch := ch) h2.dk (by omega) (HM.out.2.2.keepN h2.kp) (fun hne x hx hF => by have := rdI_blk HM.out.2.2 hne x hx; have := (h2.fl x hF).1; omega) (by omega)
  refine rg_take 0 (d := (some 113)) (v := .pointer (some ⟨kb, 0, none⟩)) (by decide) rfl rfl (by kernel_rfl) (by kernel_rfl) (by kernel_rfl) (fun _ _ _ h => h) rfl (fun W => rfl) ?_
  conv => arg 8; simp only [Act.put, List.setIfInBounds_toArray, List.set_cons_zero, List.set_cons_succ]
  refine rg_take 1 (d := (some 114)) (v := .pointer (some ⟨kb, 0, none⟩)) (by decide) rfl rfl (by kernel_rfl) (by kernel_rfl) (by kernel_rfl) (fun _ _ _ h => h) rfl (fun W => by go_simp) ?_
  conv => arg 8; simp only [Act.put, List.setIfInBounds_toArray, List.set_cons_zero, List.set_cons_succ]
  refine rg_take 2 (d := (some 115)) (v := .pointer (some ⟨kb, 0, none⟩)) (by decide) rfl rfl (by kernel_rfl) (by kernel_rfl) (by kernel_rfl) (fun _ _ _ h => h) rfl (fun W => by go_simp) ?_
  conv => arg 8; simp only [Act.put, List.setIfInBounds_toArray, List.set_cons_zero, List.set_cons_succ]
  refine rg_read 3 (d := (some 116)) (v := ptrD g) (by decide) (by kernel_rfl) (by kernel_rfl) rfl rfl (by kernel_rfl) (by kernel_rfl) (by kernel_rfl) (fun _ _ _ h => h) rfl (fun W hW => by have hc := (hW.cell (p := ⟨kb, 0, none⟩) (h2.bk.lt) (fun hh => h2.dis _ hh h2.bk.fit)).trans (h2.bk.c0); go_simp) ?_
  conv => arg 8; simp only [Act.put, List.setIfInBounds_toArray, List.set_cons_zero, List.set_cons_succ]
  refine rg_take 4 (d := (some 117)) (v := .pointer (some ⟨w.heap.size, 2, none⟩)) (by decide) rfl rfl (by kernel_rfl) (by kernel_rfl) (by kernel_rfl) (fun _ _ _ h => h) rfl (fun W => by go_simp) ?_
  conv => arg 8; simp only [Act.put, List.setIfInBounds_toArray, List.set_cons_zero, List.set_cons_succ]
  refine rg_read 5 (d := (some 118)) (v := .slice A n c) (by decide) (by kernel_rfl) (by kernel_rfl) rfl rfl (by kernel_rfl) (by kernel_rfl) (by kernel_rfl) (fun _ _ _ h => h) rfl (fun W hW => by have hc := (hW.cell (p := ⟨w.heap.size, 2, none⟩) ((show w.heap.size < _ by omega)) (fun hh => hnF hh)).trans (cb22); go_simp) ?_
  conv => arg 8; simp only [Act.put, List.setIfInBounds_toArray, List.set_cons_zero, List.set_cons_succ]
  refine rg_call 6 (d := (some 119)) (by kernel_rfl) (hcx) rfl rfl (by kernel_rfl) rfl rfl ?_
  rintro e w3 ⟨⟨u3, rfl⟩, hx3, kp3⟩
  refine ⟨_, rfl, kp3, ?_⟩
  conv => arg 8; simp only [Act.put, List.setIfInBounds_toArray, List.set_cons_zero, List.set_cons_succ]
  refine rg_done (by kernel_rfl) ?_
  have hb3 := h2.bk.keep kp3 (fun x hx hF => h2.dis x hF hx)
  have hfl3 : ∀ x, F x → w0.heap.size ≤ x ∧ x < w3.heap.size := fun x hx => by
    have := h2.fl x hx; exact ⟨this.1, by have := kp3.size; omega⟩
  have hbl3 : ∀ x, B x → w0.heap.size ≤ x ∧ x < w3.heap.size := fun x hx => ⟨(h2.bl x hx).1, by have := (h2.bl x hx).2; have := kp3.size; omega⟩
  have hkp3 : KpN w0 w3 := h2.kp.fresh kp3 (fun x hx => (h2.fl x hx).1)
  have hok3 := h2.ok.crash ch
  have hcb3 : w3.cell? ⟨w.heap.size, 2, none⟩ = some (.slice A n c) := by rw [kp3.cell (show w.heap.size < _ by omega) (fun x => hnF x)]; exact cb22
  have H3 := Lib.hid (And.intro hx3 (And.intro h2.dis (And.intro hfl3 (And.intro hbl3 (And.intro hkp3 (And.intro hb3 hok3))))))
  clear hx3 kp3 hb3 hfl3 hbl3 hkp3 hok3 h2 cb22 cb2 cb0 hcx hnF
  go_wp2_with fail
  refine (crashed_c H3.out.2.2.2.2.2.1 HM.out.2.1 hLm HM.out.2.2 hci HM.out.1 H3.out.2.2.2.2.1 (fun x hx => (H3.out.2.2.2.1 x hx).1) (fun x hx => (H3.out.2.2.2.1 x hx).2)).mono ?_
  rintro e w4 ⟨⟨u4, rfl⟩, B4, ls4, hb4, hls4, hg4, kp4⟩
  have hks := KS.after H3.out.1 H3.out.2.1 H3.out.2.2.1 H3.out.2.2.2.1 H3.out.2.2.2.2.1 hb4 (by rw [hls4]; exact H3.out.2.2.2.2.2.2) hg4 kp4
  have HK := Lib.hid hks
  clear hb4 hls4 hg4 kp4 hks
  go_wp2_with fail
  go_ret
  exact ⟨rfl, _, _, _, _, _, _, _, by omega, by omega, crashD_n _ _, HK.out⟩
/-- any step -/
theorem step_c {w0 w : World} {F B : Nat → Prop} {kb g k : Nat} {d : Dk} {mv : Value} {ls : List (Value × List Int)} {next : Nat} {Do At : Int} {A : Option Addr} {n c : Nat} {ch : List Int} (h : KS w0 w F B kb g k d mv ls next) (hk : k ≤ 100000000) (hnx : next ≤ 100000000) (hAt : I64 At) (hch : RdI w0 (.slice A n c) ch) (hci : ∀ z ∈ ch, I64 z) (hn : n ≤ 100000000) :
    Calls Try.prog 38 #[ptrD kb, .agg #[.int .i64 Do, .int .i64 At, .slice A n c]] w (StepK w0 kb g k next d.n) := by
  by_cases h01 : Do = 0 ∨ Do = 1
  · exact step_write h hk hnx h01 hAt
  · by_cases h2 : Do = 2
    · subst h2
      exact step_flush h hk
    · by_cases h3 : Do = 3
      · subst h3
        exact step_crash h hk hch hci hn
      · have h0' : ¬ Do = 0 := fun e => h01 (.inl e)
        have h1' : ¬ Do = 1 := fun e => h01 (.inr e)
        have hks := h.keepN ((Kp.refl (fun _ => False) w).alloc (.cells #[.int .i64 Do, .int .i64 At, .slice A n c] 57))
        have cb0 : (w.alloc (.cells #[.int .i64 Do, .int .i64 At, .slice A n c] 57)).cell? ⟨w.heap.size, 0, none⟩ = some (.int .i64 Do) := by
          rw [cell_of_row _ _ _ _ _ _ (heap_alloc_new _ _)]
          rfl
        have HK := Lib.hid hks
        clear h01 hks h hch hci
        go_enter Try.func38, Try.ntmps38
        go_wp2_with fail
        go_ret
        exact ⟨rfl, _, _, _, _, _, _, _, by omega, by omega, rfl, HK.out⟩
end Go.Proofs.Ythkbgbbejgpeaaa
