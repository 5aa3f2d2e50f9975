/- The statements against the document's disk: acts, a Crash. -/
import Derived.Test.YthkbgbbejgpeaaaYL
namespace Go.Proofs.Ythkbgbbejgpeaaa
open Go Go.RowKit
set_option maxRecDepth 100000

set_option maxHeartbeats 6400000 in
theorem acts_crash {w0 w : World} {F G : Nat → Prop} {g r k : Nat} {d : Dk} (h : TwoM w0 w F G g r k d d) (hk : k ≤ 900000000) {oi sz : Int} {b : UInt8} {rA cA : Option Addr} {rc CN cc : Nat} {RN : Nat} {raw : List UInt8} {ch : List Int} (hch : RdI w0 (.slice cA CN cc) ch) (hcl : ch.length ≤ 10000000) :
    Calls Try.prog 61 #[.agg #[.int .i64 4, .int .i64 oi, bv b, .int .i64 sz, .slice rA RN rc, .slice cA CN cc], .pointer (some ⟨g, 0, none⟩), .pointer (some ⟨r, 0, none⟩)] w (ActP w0 w F G g r k (actD d ⟨4, oi, b, sz, raw, ch⟩)) := by
  obtain ⟨BV, hBV⟩ : ∃ BV, bv b = BV := ⟨_, rfl⟩
  rw [hBV]
  clear hBV
  have hCN : CN = ch.length := rdI_len hch
  have kb := (Kp.refl (fun _ => False) w).alloc (.cells #[.int .i64 4, .int .i64 oi, BV, .int .i64 sz, .slice rA RN rc, .slice cA CN cc] 100)
  have hbx : ∀ j v, #[Value.int .i64 4, .int .i64 oi, BV, .int .i64 sz, .slice rA RN rc, .slice cA CN cc][j]? = some v → (w.alloc (.cells #[.int .i64 4, .int .i64 oi, BV, .int .i64 sz, .slice rA RN rc, .slice cA CN cc] 100)).cell? ⟨w.heap.size, j, none⟩ = some v := fun j v hj => by
    rw [cell_of_row _ _ _ _ _ _ (heap_alloc_new _ _)]
    exact hj
  have hzb : w.heap.size < (w.alloc (.cells #[.int .i64 4, .int .i64 oi, BV, .int .i64 sz, .slice rA RN rc, .slice cA CN cc] 100)).heap.size := by simp
  have b0 := hbx 0 _ rfl
  have b5 := hbx 5 _ rfl
  have h1 := h.keepN kb
  have hz0 := h.kp.size
  have hFb : ¬ F w.heap.size := fun e => by have := (h.fl _ e).2; omega
  have hGb : ¬ G w.heap.size := fun e => by have := (h.gl _ e).2; omega
  have H1 := Lib.hid h1
  have HCH := Lib.hid hch
  obtain ⟨w1, hw1⟩ : ∃ w1, w.alloc (.cells #[.int .i64 4, .int .i64 oi, BV, .int .i64 sz, .slice rA RN rc, .slice cA CN cc] 100) = w1 := ⟨_, rfl⟩
  have hz1 : w1.heap.size = w.heap.size + 1 := by rw [← hw1]; simp
  rw [hw1] at kb hzb b5 H1
  have HZ1 := Lib.hid hz1
  clear hbx h h1 hch hz1
  go_enter Try.func61, Try.ntmps61
  have hch1 : RdI w1 (.slice cA CN cc) ch := RdC.keepN HCH.out H1.out.kp
  obtain ⟨v2, w2, r2, o2, k2⟩ := ints_full w1 hch1 (by omega)
  obtain ⟨fb, cf, w3, r3, o3, k3, hfb, hfb2, hcf⟩ := ints_full2 w1 w2 77 78 o2 k2 (by omega)
  obtain ⟨VA, vc, hv2, -⟩ := RdC.form o2.rd
  have b52 : w2.cell? ⟨w.heap.size, 5, none⟩ = some (.slice cA CN cc) := by rw [k2.cell hzb (fun x => x)]; exact b5
  have b53 : w3.cell? ⟨w.heap.size, 5, none⟩ = some (.slice cA CN cc) := by rw [k3.cell hzb (fun x => x)]; exact b5
  have hfr : RdI w3 (.slice (some ⟨fb, 0, none⟩) CN cf) ch := by
    have := RdI.take o3.rd CN (by omega)
    rwa [List.take_left' hCN.symm] at this
  have hc77 : w3.cell? ⟨fb, CN, none⟩ = some (.int .i64 77) := by
    obtain ⟨ad, e1, e2⟩ := rdI_at o3.rd CN (by simp; omega)
    injection e1 with e1
    subst e1
    rw [add_plain'] at e2
    rw [e2]
    subst hCN
    simp
  have hc78 : w3.cell? ⟨fb, CN + 1, none⟩ = some (.int .i64 78) := by
    obtain ⟨ad, e1, e2⟩ := rdI_at o3.rd (CN + 1) (by simp; omega)
    injection e1 with e1
    subst e1
    rw [add_plain'] at e2
    rw [e2]
    subst hCN
    simp
  have h3 := H1.out.keepN k3
  rw [hv2, ← hCN] at r2 r3
  rw [HZ1.out, ← hw1] at r2
  rw [← hCN] at hcf
  have hFf : ¬ F fb := fun e => by have := (H1.out.fl _ e).2; omega
  have hGf : ¬ G fb := fun e => by have := (H1.out.gl _ e).2; omega
  have H3 := Lib.hid h3
  have HFR := Lib.hid hfr
  have HCN := Lib.hid hCN
  have kb3 := kb.thenN k3
  obtain ⟨M, hM⟩ : ∃ M, CN + 2 = M := ⟨_, rfl⟩
  rw [hM] at r3 hcf
  have hCM : CN ≤ M := by omega
  have hCc : CN ≤ cf := by omega
  have hCM1 : CN < M := by omega
  have hCM2 : CN + 1 < M := by omega
  have HM := Lib.hid hM
  clear o2 o3 hfr hv2 hch1 hCN h3 hM hw1
  go_wp2_with (at_builtin; (first | ((with_reducible show wpList _ _ _ _ _ (World.alloc (World.alloc w _) _)); refine app_op r2 rfl rfl ?_) | ((with_reducible show wpList _ _ _ _ _ (World.alloc w2 _)); refine app_op r3 rfl rfl ?_)))
  refine (crash_x H3.out.dk (by omega) HFR.out (fun _ m hm hf => hFf (by rw [(Option.some.inj hm : fb = m)]; exact hf)) (by have := HCN.out; omega)).mono ?_
  rintro e w4 ⟨⟨u4, rfl⟩, hx4, kp4⟩
  have h4 := H3.out.left hx4 (Gr.refl _ _ _) kp4
  have b54 : w4.cell? ⟨w.heap.size, 5, none⟩ = some (.slice cA CN cc) := by rw [kp4.cell (by have := k3.size; show w.heap.size < _; omega) hFb]; exact b53
  have hfr4 : RdI w4 (.slice (some ⟨fb, 0, none⟩) CN cf) ch := RdC.keep HFR.out kp4 (fun m hm hf => hFf (by rw [(Option.some.inj hm : fb = m)]; exact hf))
  have hc774 : w4.cell? ⟨fb, CN, none⟩ = some (.int .i64 77) := by rw [kp4.cell hfb2 hFf]; exact hc77
  have hc784 : w4.cell? ⟨fb, CN + 1, none⟩ = some (.int .i64 78) := by rw [kp4.cell hfb2 hFf]; exact hc78
  have hz4 := kp4.size
  have kp04 : Kp F w w4 := Kp.after kb3 kp4
  have H4 := Lib.hid (And.intro h4 hfr4)
  clear h4 hx4 kp4 hfr4 hc77 hc78 b52 b53
  go_wp2_with fail
  obtain ⟨rb, tv, vv, vs, hr⟩ := H4.out.1.rf
  have hch4 : RdI w4 (.slice cA CN cc) ch := RdC.keepN HCH.out H4.out.1.kp
  have hGl : ∀ x, G x → w0.heap.size ≤ x := fun x hx => (H4.out.1.gl x hx).1
  have hcb : ch ≠ [] → ∀ m, (Value.slice cA CN cc).ownBlock = some m → ¬ G m := fun hne m hm hf => by
    have := rdI_blk HCH.out hne m hm
    have := hGl m hf
    omega
  refine (crash_r hr hch4 hcb (by have := HCN.out; omega)).mono ?_
  rintro e w5 ⟨⟨u5, rfl⟩, hx5, kp5⟩
  have h5 := H4.out.1.right hx5 (Gr.refl _ _ _) kp5
  have b55 : w5.cell? ⟨w.heap.size, 5, none⟩ = some (.slice cA CN cc) := by rw [kp5.cell (by have := k3.size; show w.heap.size < _; omega) hGb]; exact b54
  have hfr5 : RdI w5 (.slice (some ⟨fb, 0, none⟩) CN cf) ch := RdC.keep H4.out.2 kp5 (fun m hm hf => hGf (by rw [(Option.some.inj hm : fb = m)]; exact hf))
  have hc775 : w5.cell? ⟨fb, CN, none⟩ = some (.int .i64 77) := by rw [kp5.cell (by show fb < _; omega) hGf]; exact hc774
  have hc785 : w5.cell? ⟨fb, CN + 1, none⟩ = some (.int .i64 78) := by rw [kp5.cell (by show fb < _; omega) hGf]; exact hc784
  have hch5 : RdI w5 (.slice cA CN cc) ch := RdC.keepN HCH.out h5.kp
  have hz5 := kp5.size
  have hlt5 : fb < w5.heap.size := by omega
  have hlb5 : w.heap.size < w5.heap.size := by have := k3.size; omega
  have kp05 : Kp (fun x => F x ∨ G x) w w5 := kp04.trans kp5 (fun _ _ x => .inl x) (fun _ _ x => .inr x)
  have H5 := Lib.hid (And.intro h5 (And.intro hfr5 hch5))
  clear h5 hx5 kp5 hfr5 hr hch4 hcb hc774 hc784 b54 hch5 hGl
  go_wp2_with fail
  have hsum : IntKind.i64.wrap ((CN : Int) + 1) = (CN : Int) + 1 := IntWalk.i64_in _ (by have := HCN.out; omega)
  refine rg_begin 22 (fun _ => False) (by kernel_rfl) (fun w6 d6 => ?_)
  have hB := Ints_c (ys := ch) (RdC.keepN H5.out.2.1 d6) (RdC.keepN H5.out.2.2 d6) (by omega)
  rw [show decide (ch = ch) = true by simp] at hB
  refine rg_take 0 (d := (some 121)) (v := .slice (some ⟨fb, 0, none⟩) M cf) (by decide) rfl rfl (by kernel_rfl) (by kernel_rfl) (by kernel_rfl) (fun _ _ _ h => h) rfl (fun W => rfl) ?_
  conv => arg 8; simp only [Act.put, List.setIfInBounds_toArray, List.set_cons_zero, List.set_cons_succ]
  refine rg_take 1 (d := (some 122)) (v := .int .i64 CN) (by decide) rfl rfl (by kernel_rfl) (by kernel_rfl) (by kernel_rfl) (fun _ _ _ h => h) rfl (fun W => rfl) ?_
  conv => arg 8; simp only [Act.put, List.setIfInBounds_toArray, List.set_cons_zero, List.set_cons_succ]
  refine rg_take 2 (d := (some 123)) (v := .slice (some ⟨fb, 0, none⟩) CN cf) (by decide) rfl rfl (by kernel_rfl) (by kernel_rfl) (by kernel_rfl) (fun _ _ _ h => h) rfl (fun W => by go_simp) ?_
  conv => arg 8; simp only [Act.put, List.setIfInBounds_toArray, List.set_cons_zero, List.set_cons_succ]
  refine rg_take 3 (d := (some 124)) (v := .pointer (some ⟨w.heap.size, 5, none⟩)) (by decide) rfl rfl (by kernel_rfl) (by kernel_rfl) (by kernel_rfl) (fun _ _ _ h => h) rfl (fun W => by go_simp) ?_
  conv => arg 8; simp only [Act.put, List.setIfInBounds_toArray, List.set_cons_zero, List.set_cons_succ]
  refine rg_read 4 (d := (some 125)) (v := .slice cA CN cc) (by decide) (by kernel_rfl) (by kernel_rfl) rfl rfl (by kernel_rfl) (by kernel_rfl) (by kernel_rfl) (fun _ _ _ h => h) rfl (fun W hW => by have hc := (hW.cell (p := ⟨w.heap.size, 5, none⟩) ((by have := d6.size; show w.heap.size < _; omega)) (fun x => x)).trans ((d6.cell (p := ⟨w.heap.size, 5, none⟩) hlb5 (fun x => x)).trans b55); go_simp) ?_
  conv => arg 8; simp only [Act.put, List.setIfInBounds_toArray, List.set_cons_zero, List.set_cons_succ]
  refine rg_call 5 (d := (some 126)) (by kernel_rfl) (hB) rfl rfl (by kernel_rfl) rfl rfl ?_
  rintro e w7 ⟨rfl, k7⟩
  refine ⟨_, rfl, k7, ?_⟩
  conv => arg 8; simp only [Act.put, List.setIfInBounds_toArray, List.set_cons_zero, List.set_cons_succ]
  have k57 : KpN w5 w7 := d6.thenN k7
  have hz7 := k57.size
  have hix : ((M : Int) ≤ (CN : Int) + 1) = False := propext ⟨fun h => by omega, fun h => h.elim⟩
  have hi0 : (0 ≤ (CN : Int) + 1) = True := propext ⟨fun _ => trivial, fun _ => by omega⟩
  refine rg_take 6 (d := (some 127)) (v := .bool true) (by decide) rfl rfl (by kernel_rfl) (by kernel_rfl) (by kernel_rfl) (fun _ _ _ h => h) rfl (fun W => rfl) ?_
  conv => arg 8; simp only [Act.put, List.setIfInBounds_toArray, List.set_cons_zero, List.set_cons_succ]
  refine rg_take 7 (d := (some 128)) (v := .slice (some ⟨fb, 0, none⟩) M cf) (by decide) rfl rfl (by kernel_rfl) (by kernel_rfl) (by kernel_rfl) (fun _ _ _ h => h) rfl (fun W => rfl) ?_
  conv => arg 8; simp only [Act.put, List.setIfInBounds_toArray, List.set_cons_zero, List.set_cons_succ]
  refine rg_take 8 (d := (some 129)) (v := .int .i64 CN) (by decide) rfl rfl (by kernel_rfl) (by kernel_rfl) (by kernel_rfl) (fun _ _ _ h => h) rfl (fun W => rfl) ?_
  conv => arg 8; simp only [Act.put, List.setIfInBounds_toArray, List.set_cons_zero, List.set_cons_succ]
  refine rg_take 9 (d := (some 130)) (v := .pointer (some ⟨fb, CN, none⟩)) (by decide) rfl rfl (by kernel_rfl) (by kernel_rfl) (by kernel_rfl) (fun _ _ _ h => h) rfl (fun W => by go_simp) ?_
  conv => arg 8; simp only [Act.put, List.setIfInBounds_toArray, List.set_cons_zero, List.set_cons_succ]
  refine rg_read 10 (d := (some 131)) (v := .int .i64 77) (by decide) (by kernel_rfl) (by kernel_rfl) rfl rfl (by kernel_rfl) (by kernel_rfl) (by kernel_rfl) (fun _ _ _ h => h) rfl (fun W hW => by have hc := (hW.cell (p := ⟨fb, CN, none⟩) ((by show fb < _; omega)) (fun x => x)).trans ((k57.cell (p := ⟨fb, CN, none⟩) hlt5 (fun x => x)).trans hc775); go_simp) ?_
  conv => arg 8; simp only [Act.put, List.setIfInBounds_toArray, List.set_cons_zero, List.set_cons_succ]
  refine rg_take 11 (d := (some 132)) (v := .bool true) (by decide) rfl rfl (by kernel_rfl) (by kernel_rfl) (by kernel_rfl) (fun _ _ _ h => h) rfl (fun W => by go_simp) ?_
  conv => arg 8; simp only [Act.put, List.setIfInBounds_toArray, List.set_cons_zero, List.set_cons_succ]
  refine rg_take 12 (d := (some 133)) (v := .bool true) (by decide) rfl rfl (by kernel_rfl) (by kernel_rfl) (by kernel_rfl) (fun _ _ _ h => h) rfl (fun W => rfl) ?_
  conv => arg 8; simp only [Act.put, List.setIfInBounds_toArray, List.set_cons_zero, List.set_cons_succ]
  refine rg_take 13 (d := (some 134)) (v := .bool true) (by decide) rfl rfl (by kernel_rfl) (by kernel_rfl) (by kernel_rfl) (fun _ _ _ h => h) rfl (fun W => rfl) ?_
  conv => arg 8; simp only [Act.put, List.setIfInBounds_toArray, List.set_cons_zero, List.set_cons_succ]
  refine rg_take 14 (d := (some 135)) (v := .slice (some ⟨fb, 0, none⟩) M cf) (by decide) rfl rfl (by kernel_rfl) (by kernel_rfl) (by kernel_rfl) (fun _ _ _ h => h) rfl (fun W => rfl) ?_
  conv => arg 8; simp only [Act.put, List.setIfInBounds_toArray, List.set_cons_zero, List.set_cons_succ]
  refine rg_take 15 (d := (some 136)) (v := .int .i64 CN) (by decide) rfl rfl (by kernel_rfl) (by kernel_rfl) (by kernel_rfl) (fun _ _ _ h => h) rfl (fun W => rfl) ?_
  conv => arg 8; simp only [Act.put, List.setIfInBounds_toArray, List.set_cons_zero, List.set_cons_succ]
  refine rg_take 16 (d := (some 137)) (v := .int .i64 ((CN : Int) + 1)) (by decide) rfl rfl (by kernel_rfl) (by kernel_rfl) (by kernel_rfl) (fun _ _ _ h => h) rfl (fun W => by go_simp) ?_
  conv => arg 8; simp only [Act.put, List.setIfInBounds_toArray, List.set_cons_zero, List.set_cons_succ]
  refine rg_take 17 (d := (some 138)) (v := .pointer (some ⟨fb, CN + 1, none⟩)) (by decide) rfl rfl (by kernel_rfl) (by kernel_rfl) (by kernel_rfl) (fun _ _ _ h => h) rfl (fun W => by go_simp) ?_
  conv => arg 8; simp only [Act.put, List.setIfInBounds_toArray, List.set_cons_zero, List.set_cons_succ]
  refine rg_read 18 (d := (some 139)) (v := .int .i64 78) (by decide) (by kernel_rfl) (by kernel_rfl) rfl rfl (by kernel_rfl) (by kernel_rfl) (by kernel_rfl) (fun _ _ _ h => h) rfl (fun W hW => by have hc := (hW.cell (p := ⟨fb, CN + 1, none⟩) ((by show fb < _; omega)) (fun x => x)).trans ((k57.cell (p := ⟨fb, CN + 1, none⟩) hlt5 (fun x => x)).trans hc785); go_simp) ?_
  conv => arg 8; simp only [Act.put, List.setIfInBounds_toArray, List.set_cons_zero, List.set_cons_succ]
  refine rg_take 19 (d := (some 140)) (v := .bool true) (by decide) rfl rfl (by kernel_rfl) (by kernel_rfl) (by kernel_rfl) (fun _ _ _ h => h) rfl (fun W => by go_simp) ?_
  conv => arg 8; simp only [Act.put, List.setIfInBounds_toArray, List.set_cons_zero, List.set_cons_succ]
  refine rg_take 20 (d := (some 141)) (v := .bool true) (by decide) rfl rfl (by kernel_rfl) (by kernel_rfl) (by kernel_rfl) (fun _ _ _ h => h) rfl (fun W => rfl) ?_
  conv => arg 8; simp only [Act.put, List.setIfInBounds_toArray, List.set_cons_zero, List.set_cons_succ]
  refine rg_take 21 (d := (some 6)) (v := .bool true) (by decide) rfl rfl (by kernel_rfl) (by kernel_rfl) (by kernel_rfl) (fun _ _ _ h => h) rfl (fun W => rfl) ?_
  conv => arg 8; simp only [Act.put, List.setIfInBounds_toArray, List.set_cons_zero, List.set_cons_succ]
  refine rg_done (by kernel_rfl) ?_
  have hfin : ActP w0 w F G g r k (actD d ⟨4, oi, b, sz, raw, ch⟩) (.returned (.bool true)) w7 := by
    have hA : actD d ⟨4, oi, b, sz, raw, ch⟩ = crashD d ch := by simp [actD]
    rw [hA]
    exact ⟨rfl, kp05.thenN k57, F, G, k, by omega, H5.out.1.keepN k57⟩
  have HF := Lib.hid hfin
  clear hfin k57
  go_wp2_with fail
  go_ret
  exact HF.out
end Go.Proofs.Ythkbgbbejgpeaaa
