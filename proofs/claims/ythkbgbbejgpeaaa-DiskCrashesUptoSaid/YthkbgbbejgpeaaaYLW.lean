/- The statements against the document's disk: acts, a Write. -/
import Derived.Test.YthkbgbbejgpeaaaYL
namespace Go.Proofs.Ythkbgbbejgpeaaa
open Go Go.RowKit
set_option maxRecDepth 100000

set_option maxHeartbeats 12800000 in
theorem acts_write {w0 w : World} {F G : Nat → Prop} {g r k : Nat} {d : Dk} (h : TwoM w0 w F G g r k d d) (hk : k ≤ 900000000) {oi sz : Int} {b : UInt8} {rA cA : Option Addr} {rc CN cc : Nat} {RN : Nat} {raw : List UInt8} {ch : List Int} (hi : I64 oi) (hr : RdB w0 (.slice rA RN rc) raw) (hch : RdI w0 (.slice cA CN cc) ch) (hrl : raw.length ≤ 10000000) :
    Calls Try.prog 61 #[.agg #[.int .i64 1, .int .i64 oi, bv b, .int .i64 sz, .slice rA RN rc, .slice cA CN cc], .pointer (some ⟨g, 0, none⟩), .pointer (some ⟨r, 0, none⟩)] w (ActP w0 w F G g r k (actD d ⟨1, oi, b, sz, raw, ch⟩)) := by
  have hT : ∀ W, KpN w0 W → Calls Try.prog 68 #[.agg #[.int .i64 1, .int .i64 oi, bv b, .int .i64 sz, .slice rA RN rc, .slice cA CN cc]] W (TextP ⟨1, oi, b, sz, raw, ch⟩ W) := fun W kW => text_c (w := W) (o := ⟨1, oi, b, sz, raw, ch⟩) (hr.keepN kW) (RdC.keepN hch kW) hi (by show raw.length ≤ _; omega)
  obtain ⟨BV, hBV⟩ : ∃ BV, bv b = BV := ⟨_, rfl⟩
  rw [hBV] at hT ⊢
  clear hBV
  have HT := Lib.hid hT
  clear hT
  have kb := (Kp.refl (fun _ => False) w).alloc (.cells #[.int .i64 1, .int .i64 oi, BV, .int .i64 sz, .slice rA RN rc, .slice cA CN cc] 100)
  have hbx : RowAt (w.alloc (.cells #[.int .i64 1, .int .i64 oi, BV, .int .i64 sz, .slice rA RN rc, .slice cA CN cc] 100)) ⟨w.heap.size, 0, none⟩ [.int .i64 1, .int .i64 oi, BV, .int .i64 sz, .slice rA RN rc, .slice cA CN cc] := fun j v hj => by
    rw [add_plain', cell_of_row _ _ _ _ _ _ (heap_alloc_new _ _)]
    simpa using hj
  have hzb : w.heap.size < (w.alloc (.cells #[.int .i64 1, .int .i64 oi, BV, .int .i64 sz, .slice rA RN rc, .slice cA CN cc] 100)).heap.size := by simp
  have h1 := h.keepN kb
  have hz0 := h.kp.size
  have hFb : ¬ F w.heap.size := fun e => by have := (h.fl _ e).2; omega
  have hGb : ¬ G w.heap.size := fun e => by have := (h.gl _ e).2; omega
  have H1 := Lib.hid h1
  obtain ⟨tx, htx⟩ : ∃ tx, textB ⟨1, oi, b, sz, raw, ch⟩ = tx := ⟨_, rfl⟩
  have htl : tx.length ≤ 1000000000 := by rw [← htx]; exact textB_len _ (by show raw.length ≤ _; omega)
  have HTX := Lib.hid htx
  clear h h1 htx
  go_enter Try.func61, Try.ntmps61
  obtain ⟨w1, hw1⟩ : ∃ w1, w.alloc (.cells #[.int .i64 1, .int .i64 oi, BV, .int .i64 sz, .slice rA RN rc, .slice cA CN cc] 100) = w1 := ⟨_, rfl⟩
  rw [hw1] at kb hzb hbx H1
  have HBX := Lib.hid hbx
  clear hbx
  have HW1 := Lib.hid hw1
  clear hw1
  go_wp2_with fail
  rw [HW1.out]
  refine (HT.out w1 H1.out.kp).mono ?_
  rintro e w2 ⟨u2, rfl, o2, k2⟩
  rw [HTX.out] at o2
  obtain ⟨fb, cf, w3, r3, o3, k3, hfb, hfb2, hcf⟩ := full2_c w1 w2 211 212 211 212 rfl rfl o2 k2 htl
  obtain ⟨VA, vc, rfl, -⟩ := o2.readsB.form
  obtain ⟨T, hTT⟩ : ∃ T, tx.length = T := ⟨_, rfl⟩
  have hfr : RdB w3 (.slice (some ⟨fb, 0, none⟩) T cf) tx := by
    have := o3.readsB.take T (by omega)
    rwa [List.take_left' hTT] at this
  have hc1 : w3.cell? ⟨fb, T, none⟩ = some (.int .u8 211) := by
    have := OwB.byteAt o3 (by simp) T (by simp; omega)
    rw [this]
    have : (tx ++ [211, 212])[T]'(by simp; omega) = 211 := by subst hTT; simp
    rw [this]
    rfl
  have hc2 : w3.cell? ⟨fb, T + 1, none⟩ = some (.int .u8 212) := by
    have := OwB.byteAt o3 (by simp) (T + 1) (by simp; omega)
    rw [this]
    have : (tx ++ [211, 212])[T + 1]'(by simp; omega) = 212 := by subst hTT; simp
    rw [this]
    rfl
  have h3 := H1.out.keepN k3
  have hFf : ¬ F fb := fun e => by have := (H1.out.fl _ e).2; omega
  have hGf : ¬ G fb := fun e => by have := (H1.out.gl _ e).2; omega
  have o3l : (tx ++ [211, 212]).length = T + 2 := by simp; omega
  rw [hTT] at r3 o3 hcf htl ⊢
  obtain ⟨M, hM⟩ : ∃ M, T + 2 = M := ⟨_, rfl⟩
  rw [hM] at r3 o3 o3l hcf
  have hCM : T ≤ M := by omega
  have hCc : T ≤ cf := by omega
  have hCM1 : T < M := by omega
  have hCM2 : T + 1 < M := by omega
  have hsubM : (M : Int) - 2 = (T : Int) := by omega
  have hz3 := k3.size
  have hbx3 : RowAt w3 ⟨w.heap.size, 0, none⟩ [.int .i64 1, .int .i64 oi, BV, .int .i64 sz, .slice rA RN rc, .slice cA CN cc] := HBX.out.keep k3 (fun x => x)
  have HBX3 := Lib.hid hbx3
  have H3 := Lib.hid (And.intro h3 (And.intro hfr (And.intro o3 (And.intro hc1 hc2))))
  have HM := Lib.hid (And.intro hM (And.intro hTT o3l))
  clear o2 h3 hfr o3 hc1 hc2 hM hTT o3l hbx3
  go_wp2_with (at_builtin; ((with_reducible show wpList _ _ _ _ _ (World.alloc w2 _)); refine app_op r3 rfl rfl ?_))
  clear r3 hsubM
  refine rg_begin 8 (fun x => F x) (by kernel_rfl) (fun w4 d4 => ?_)
  have z4 := d4.size
  have b41 : w4.cell? ⟨w.heap.size, 1, none⟩ = some (.int .i64 oi) := (HBX3.out.keepN d4) 1 _ rfl
  have h4 := H3.out.1.keepN d4
  have hWX := write_x (i := oi) h4.dk (H3.out.2.1.keepN d4) (fun m hm hf => hFf (by rw [(Option.some.inj hm : fb = m)]; exact hf)) hi (by omega)
  refine rg_take 0 (d := (some 28)) (v := .pointer (some ⟨g, 0, none⟩)) (by decide) rfl rfl (by kernel_rfl) (by kernel_rfl) (by kernel_rfl) (fun _ _ _ h => h) rfl (fun W => rfl) ?_
  conv => arg 8; simp only [Act.put, List.setIfInBounds_toArray, List.set_cons_zero, List.set_cons_succ]
  refine rg_take 1 (d := (some 29)) (v := .pointer (some ⟨w.heap.size, 1, none⟩)) (by decide) rfl rfl (by kernel_rfl) (by kernel_rfl) (by kernel_rfl) (fun _ _ _ h => h) rfl (fun W => by go_simp) ?_
  conv => arg 8; simp only [Act.put, List.setIfInBounds_toArray, List.set_cons_zero, List.set_cons_succ]
  refine rg_read 2 (d := (some 30)) (v := .int .i64 oi) (by decide) (by kernel_rfl) (by kernel_rfl) rfl rfl (by kernel_rfl) (by kernel_rfl) (by kernel_rfl) (fun _ _ _ h => h) rfl (fun W hW => by have hc := (hW.cell (p := ⟨w.heap.size, 1, none⟩) ((by show w.heap.size < _; omega)) (fun hh => hFb hh)).trans (b41); go_simp) ?_
  conv => arg 8; simp only [Act.put, List.setIfInBounds_toArray, List.set_cons_zero, List.set_cons_succ]
  refine rg_take 3 (d := (some 31)) (v := .slice (some ⟨fb, 0, none⟩) M cf) (by decide) rfl rfl (by kernel_rfl) (by kernel_rfl) (by kernel_rfl) (fun _ _ _ h => h) rfl (fun W => rfl) ?_
  conv => arg 8; simp only [Act.put, List.setIfInBounds_toArray, List.set_cons_zero, List.set_cons_succ]
  refine rg_take 4 (d := (some 32)) (v := .int .i64 T) (by decide) rfl rfl (by kernel_rfl) (by kernel_rfl) (by kernel_rfl) (fun _ _ _ h => h) rfl (fun W => rfl) ?_
  conv => arg 8; simp only [Act.put, List.setIfInBounds_toArray, List.set_cons_zero, List.set_cons_succ]
  refine rg_take 5 (d := (some 33)) (v := .slice (some ⟨fb, 0, none⟩) T cf) (by decide) rfl rfl (by kernel_rfl) (by kernel_rfl) (by kernel_rfl) (fun _ _ _ h => h) rfl (fun W => by go_simp) ?_
  conv => arg 8; simp only [Act.put, List.setIfInBounds_toArray, List.set_cons_zero, List.set_cons_succ]
  refine rg_call 6 (d := (some 34)) (by kernel_rfl) (hWX) rfl rfl (by kernel_rfl) rfl rfl ?_
  rintro e w5 ⟨rfl, F5, k5, hk5, hx5, hg5, kp5⟩
  refine ⟨_, rfl, kp5, ?_⟩
  conv => arg 8; simp only [Act.put, List.setIfInBounds_toArray, List.set_cons_zero, List.set_cons_succ]
  refine rg_take 7 (d := (some 9)) (v := .int .i64 ((writeD d oi tx).1 : Int)) (by decide) rfl rfl (by kernel_rfl) (by kernel_rfl) (by kernel_rfl) (fun _ _ _ h => h) rfl (fun W => rfl) ?_
  conv => arg 8; simp only [Act.put, List.setIfInBounds_toArray, List.set_cons_zero, List.set_cons_succ]
  refine rg_done (by kernel_rfl) ?_
  have h5 := h4.left hx5 hg5 kp5
  have z5 := kp5.size
  have hFf5 : ¬ F5 fb := fun e => by
    rcases hg5 fb e with e | e
    · exact hFf e
    · have := e.1; omega
  have hFb5 : ¬ F5 w.heap.size := fun e => by
    rcases hg5 _ e with e | e
    · exact hFb e
    · have := e.1; omega
  have hbx5 := (HBX3.out.keepN d4).keep kp5 hFb
  have hkeep : ∀ (w' : World) (S : Nat → Prop), Kp S w3 w' → ¬ S fb → RdB w' (.slice (some ⟨fb, 0, none⟩) T cf) tx ∧ OwB w' 5 (fun z => z = fb) (.slice (some ⟨fb, 0, none⟩) M cf) (tx ++ [211, 212]) ∧ w'.cell? ⟨fb, T, none⟩ = some (.int .u8 211) ∧ w'.cell? ⟨fb, T + 1, none⟩ = some (.int .u8 212) := fun w' S kk hS =>
    ⟨H3.out.2.1.keep kk (fun m hm hs => hS (by rw [(Option.some.inj hm : fb = m)]; exact hs)), H3.out.2.2.1.keep kk (fun m hm hs => hS (by rw [← hm]; exact hs)), by rw [kk.cell hfb2 hS]; exact H3.out.2.2.2.1, by rw [kk.cell hfb2 hS]; exact H3.out.2.2.2.2⟩
  have HK := Lib.hid hkeep
  have H5 := Lib.hid (And.intro h5 hbx5)
  have kp35 : Kp F w3 w5 := Kp.after d4 kp5
  clear hkeep h5 hx5 hg5 kp5 hbx5 h4 hWX b41
  go_wp2_with fail
  refine rg_begin 7 (fun x => G x) (by kernel_rfl) (fun w6 d6 => ?_)
  have z6 := d6.size
  have b61 : w6.cell? ⟨w.heap.size, 1, none⟩ = some (.int .i64 oi) := (H5.out.2.keepN d6) 1 _ rfl
  have bx6 := H5.out.2.keepN d6
  have h6 := H5.out.1.keepN d6
  have hT6 := HT.out w6 h6.kp
  unfold TextP at hT6
  rw [HTX.out] at hT6
  refine rg_take 0 (d := (some 35)) (v := .pointer (some ⟨r, 0, none⟩)) (by decide) rfl rfl (by kernel_rfl) (by kernel_rfl) (by kernel_rfl) (fun _ _ _ h => h) rfl (fun W => rfl) ?_
  conv => arg 8; simp only [Act.put, List.setIfInBounds_toArray, List.set_cons_zero, List.set_cons_succ]
  refine rg_take 1 (d := (some 36)) (v := .pointer (some ⟨w.heap.size, 1, none⟩)) (by decide) rfl rfl (by kernel_rfl) (by kernel_rfl) (by kernel_rfl) (fun _ _ _ h => h) rfl (fun W => by go_simp) ?_
  conv => arg 8; simp only [Act.put, List.setIfInBounds_toArray, List.set_cons_zero, List.set_cons_succ]
  refine rg_read 2 (d := (some 37)) (v := .int .i64 oi) (by decide) (by kernel_rfl) (by kernel_rfl) rfl rfl (by kernel_rfl) (by kernel_rfl) (by kernel_rfl) (fun _ _ _ h => h) rfl (fun W hW => by have hc := (hW.cell (p := ⟨w.heap.size, 1, none⟩) ((by show w.heap.size < _; omega)) (fun hh => hGb hh)).trans (b61); go_simp) ?_
  conv => arg 8; simp only [Act.put, List.setIfInBounds_toArray, List.set_cons_zero, List.set_cons_succ]
  refine rg_read 3 (d := (some 38)) (v := .agg #[.int .i64 1, .int .i64 oi, BV, .int .i64 sz, .slice rA RN rc, .slice cA CN cc]) (by decide) (by kernel_rfl) (by kernel_rfl) rfl rfl (by kernel_rfl) (by kernel_rfl) (by kernel_rfl) (fun _ _ _ h => h) rfl (fun W hW => by exact run_load_op (bx6.keep hW (fun e => hGb e)) rfl Try.underlying100 rfl (by kernel_rfl)) ?_
  conv => arg 8; simp only [Act.put, List.setIfInBounds_toArray, List.set_cons_zero, List.set_cons_succ]
  refine rg_call 4 (d := (some 39)) (by kernel_rfl) (hT6) rfl rfl (by kernel_rfl) rfl rfl ?_
  rintro e w7 ⟨vt, rfl, ot, kt⟩
  refine ⟨_, rfl, kt.mono (fun _ _ x => x.elim), ?_⟩
  conv => arg 8; simp only [Act.put, List.setIfInBounds_toArray, List.set_cons_zero, List.set_cons_succ]
  have h7 := h6.keepN kt
  have z7 := kt.size
  obtain ⟨rb, tv, vv, vs, hr7⟩ := h7.rf
  have hcnt7 : ∀ i, i < d.n → (d.ca i).length ≤ 1000000000 := fun i hi => Nat.le_trans (H1.out.dk.cnt i hi) (by omega)
  have hWR := write_r (i := oi) hr7 ot.readsB (fun m hm hf => by have := (ot.fit m hm).1; have := (h6.gl m hf).2; omega) hi hcnt7
  refine rg_call 5 (d := (some 40)) (by kernel_rfl) (hWR) rfl rfl (by kernel_rfl) rfl rfl ?_
  rintro e w8 ⟨rfl, G8, hx8, hg8, kp8⟩
  refine ⟨_, rfl, kp8, ?_⟩
  conv => arg 8; simp only [Act.put, List.setIfInBounds_toArray, List.set_cons_zero, List.set_cons_succ]
  refine rg_take 6 (d := (some 10)) (v := .int .i64 ((writeD d oi tx).1 : Int)) (by decide) rfl rfl (by kernel_rfl) (by kernel_rfl) (by kernel_rfl) (fun _ _ _ h => h) rfl (fun W => rfl) ?_
  conv => arg 8; simp only [Act.put, List.setIfInBounds_toArray, List.set_cons_zero, List.set_cons_succ]
  refine rg_done (by kernel_rfl) ?_
  have h8 := h7.right hx8 hg8 kp8
  have z8 := kp8.size
  have hGf8 : ¬ G8 fb := fun e => by
    rcases hg8 fb e with e | e
    · exact hGf e
    · have := e.1; omega
  have hbx8 := (bx6.keepN kt).keep kp8 hGb
  have kp38 : Kp (fun x => F x ∨ G x) w3 w8 := kp35.trans (Kp.after (d6.thenN kt) kp8) (fun _ _ x => .inl x) (fun _ _ x => .inr x)
  have h38 := HK.out _ _ kp38 (fun e => e.elim hFf hGf)
  have H8 := Lib.hid (And.intro h8 (And.intro hbx8 h38))
  clear h8 hx8 hg8 kp8 hbx8 h6 h7 hWR b61 bx6 ot hT6 hr7 h38 hcnt7 kp35
  obtain ⟨E1, hE1⟩ : ∃ E1, (writeD d oi tx).1 = E1 := ⟨_, rfl⟩
  rw [hE1]
  clear hE1
  go_wp2_with fail
  have hsum : IntKind.i64.wrap ((T : Int) + 1) = (T : Int) + 1 := IntWalk.i64_in _ (by omega)
  refine rg_begin 22 (fun _ => False) (by kernel_rfl) (fun w9 d9 => ?_)
  have z9 := d9.size
  have bx9 := H8.out.2.1.keepN d9
  have hT9 := HT.out w9 (H8.out.1.keepN d9).kp
  unfold TextP at hT9
  rw [HTX.out] at hT9
  refine rg_take 0 (d := (some 41)) (v := .slice (some ⟨fb, 0, none⟩) M cf) (by decide) rfl rfl (by kernel_rfl) (by kernel_rfl) (by kernel_rfl) (fun _ _ _ h => h) rfl (fun W => rfl) ?_
  conv => arg 8; simp only [Act.put, List.setIfInBounds_toArray, List.set_cons_zero, List.set_cons_succ]
  refine rg_take 1 (d := (some 42)) (v := .int .i64 T) (by decide) rfl rfl (by kernel_rfl) (by kernel_rfl) (by kernel_rfl) (fun _ _ _ h => h) rfl (fun W => rfl) ?_
  conv => arg 8; simp only [Act.put, List.setIfInBounds_toArray, List.set_cons_zero, List.set_cons_succ]
  refine rg_take 2 (d := (some 43)) (v := .slice (some ⟨fb, 0, none⟩) T cf) (by decide) rfl rfl (by kernel_rfl) (by kernel_rfl) (by kernel_rfl) (fun _ _ _ h => h) rfl (fun W => by go_simp) ?_
  conv => arg 8; simp only [Act.put, List.setIfInBounds_toArray, List.set_cons_zero, List.set_cons_succ]
  refine rg_read 3 (d := (some 44)) (v := .agg #[.int .i64 1, .int .i64 oi, BV, .int .i64 sz, .slice rA RN rc, .slice cA CN cc]) (by decide) (by kernel_rfl) (by kernel_rfl) rfl rfl (by kernel_rfl) (by kernel_rfl) (by kernel_rfl) (fun _ _ _ h => h) rfl (fun W hW => by exact run_load_op (bx9.keepN hW) rfl Try.underlying100 rfl (by kernel_rfl)) ?_
  conv => arg 8; simp only [Act.put, List.setIfInBounds_toArray, List.set_cons_zero, List.set_cons_succ]
  refine rg_call 4 (d := (some 45)) (by kernel_rfl) (hT9) rfl rfl (by kernel_rfl) rfl rfl ?_
  rintro e w10 ⟨vt, rfl, ot, kt⟩
  refine ⟨_, rfl, kt, ?_⟩
  conv => arg 8; simp only [Act.put, List.setIfInBounds_toArray, List.set_cons_zero, List.set_cons_succ]
  have z10 := kt.size
  have hB := Bytes_c (ys := tx) ((H8.out.2.2.1.keepN d9).keepN kt) ot.readsB (by have := HM.out.2.1; omega)
  rw [show decide (tx = tx) = true by simp] at hB
  refine rg_call 5 (d := (some 46)) (by kernel_rfl) (hB) rfl rfl (by kernel_rfl) rfl rfl ?_
  rintro e w11 ⟨rfl, k11⟩
  refine ⟨_, rfl, k11, ?_⟩
  conv => arg 8; simp only [Act.put, List.setIfInBounds_toArray, List.set_cons_zero, List.set_cons_succ]
  have k811 : KpN w8 w11 := (d9.thenN kt).thenN k11
  have z11 := k11.size
  have hix : ((M : Int) ≤ (T : Int) + 1) = False := propext ⟨fun h => by omega, fun h => h.elim⟩
  have hi0 : (0 ≤ (T : Int) + 1) = True := propext ⟨fun _ => trivial, fun _ => by omega⟩
  refine rg_take 6 (d := (some 47)) (v := .bool true) (by decide) rfl rfl (by kernel_rfl) (by kernel_rfl) (by kernel_rfl) (fun _ _ _ h => h) rfl (fun W => rfl) ?_
  conv => arg 8; simp only [Act.put, List.setIfInBounds_toArray, List.set_cons_zero, List.set_cons_succ]
  refine rg_take 7 (d := (some 48)) (v := .slice (some ⟨fb, 0, none⟩) M cf) (by decide) rfl rfl (by kernel_rfl) (by kernel_rfl) (by kernel_rfl) (fun _ _ _ h => h) rfl (fun W => rfl) ?_
  conv => arg 8; simp only [Act.put, List.setIfInBounds_toArray, List.set_cons_zero, List.set_cons_succ]
  refine rg_take 8 (d := (some 49)) (v := .int .i64 T) (by decide) rfl rfl (by kernel_rfl) (by kernel_rfl) (by kernel_rfl) (fun _ _ _ h => h) rfl (fun W => rfl) ?_
  conv => arg 8; simp only [Act.put, List.setIfInBounds_toArray, List.set_cons_zero, List.set_cons_succ]
  refine rg_take 9 (d := (some 50)) (v := .pointer (some ⟨fb, T, none⟩)) (by decide) rfl rfl (by kernel_rfl) (by kernel_rfl) (by kernel_rfl) (fun _ _ _ h => h) rfl (fun W => by go_simp) ?_
  conv => arg 8; simp only [Act.put, List.setIfInBounds_toArray, List.set_cons_zero, List.set_cons_succ]
  refine rg_read 10 (d := (some 51)) (v := .int .u8 211) (by decide) (by kernel_rfl) (by kernel_rfl) rfl rfl (by kernel_rfl) (by kernel_rfl) (by kernel_rfl) (fun _ _ _ h => h) rfl (fun W hW => by have hc := (hW.cell (p := ⟨fb, T, none⟩) ((by show fb < _; omega)) (fun x => x)).trans ((k811.cell (p := ⟨fb, T, none⟩) (by show fb < _; omega) (fun x => x)).trans H8.out.2.2.2.2.1); go_simp) ?_
  conv => arg 8; simp only [Act.put, List.setIfInBounds_toArray, List.set_cons_zero, List.set_cons_succ]
  refine rg_take 11 (d := (some 52)) (v := .bool true) (by decide) rfl rfl (by kernel_rfl) (by kernel_rfl) (by kernel_rfl) (fun _ _ _ h => h) rfl (fun W => by go_simp) ?_
  conv => arg 8; simp only [Act.put, List.setIfInBounds_toArray, List.set_cons_zero, List.set_cons_succ]
  refine rg_take 12 (d := (some 53)) (v := .bool true) (by decide) rfl rfl (by kernel_rfl) (by kernel_rfl) (by kernel_rfl) (fun _ _ _ h => h) rfl (fun W => rfl) ?_
  conv => arg 8; simp only [Act.put, List.setIfInBounds_toArray, List.set_cons_zero, List.set_cons_succ]
  refine rg_take 13 (d := (some 54)) (v := .bool true) (by decide) rfl rfl (by kernel_rfl) (by kernel_rfl) (by kernel_rfl) (fun _ _ _ h => h) rfl (fun W => rfl) ?_
  conv => arg 8; simp only [Act.put, List.setIfInBounds_toArray, List.set_cons_zero, List.set_cons_succ]
  refine rg_take 14 (d := (some 55)) (v := .slice (some ⟨fb, 0, none⟩) M cf) (by decide) rfl rfl (by kernel_rfl) (by kernel_rfl) (by kernel_rfl) (fun _ _ _ h => h) rfl (fun W => rfl) ?_
  conv => arg 8; simp only [Act.put, List.setIfInBounds_toArray, List.set_cons_zero, List.set_cons_succ]
  refine rg_take 15 (d := (some 56)) (v := .int .i64 T) (by decide) rfl rfl (by kernel_rfl) (by kernel_rfl) (by kernel_rfl) (fun _ _ _ h => h) rfl (fun W => rfl) ?_
  conv => arg 8; simp only [Act.put, List.setIfInBounds_toArray, List.set_cons_zero, List.set_cons_succ]
  refine rg_take 16 (d := (some 57)) (v := .int .i64 ((T : Int) + 1)) (by decide) rfl rfl (by kernel_rfl) (by kernel_rfl) (by kernel_rfl) (fun _ _ _ h => h) rfl (fun W => by go_simp) ?_
  conv => arg 8; simp only [Act.put, List.setIfInBounds_toArray, List.set_cons_zero, List.set_cons_succ]
  refine rg_take 17 (d := (some 58)) (v := .pointer (some ⟨fb, T + 1, none⟩)) (by decide) rfl rfl (by kernel_rfl) (by kernel_rfl) (by kernel_rfl) (fun _ _ _ h => h) rfl (fun W => by go_simp) ?_
  conv => arg 8; simp only [Act.put, List.setIfInBounds_toArray, List.set_cons_zero, List.set_cons_succ]
  refine rg_read 18 (d := (some 59)) (v := .int .u8 212) (by decide) (by kernel_rfl) (by kernel_rfl) rfl rfl (by kernel_rfl) (by kernel_rfl) (by kernel_rfl) (fun _ _ _ h => h) rfl (fun W hW => by have hc := (hW.cell (p := ⟨fb, T + 1, none⟩) ((by show fb < _; omega)) (fun x => x)).trans ((k811.cell (p := ⟨fb, T + 1, none⟩) (by show fb < _; omega) (fun x => x)).trans H8.out.2.2.2.2.2); go_simp) ?_
  conv => arg 8; simp only [Act.put, List.setIfInBounds_toArray, List.set_cons_zero, List.set_cons_succ]
  refine rg_take 19 (d := (some 60)) (v := .bool true) (by decide) rfl rfl (by kernel_rfl) (by kernel_rfl) (by kernel_rfl) (fun _ _ _ h => h) rfl (fun W => by go_simp) ?_
  conv => arg 8; simp only [Act.put, List.setIfInBounds_toArray, List.set_cons_zero, List.set_cons_succ]
  refine rg_take 20 (d := (some 61)) (v := .bool true) (by decide) rfl rfl (by kernel_rfl) (by kernel_rfl) (by kernel_rfl) (fun _ _ _ h => h) rfl (fun W => rfl) ?_
  conv => arg 8; simp only [Act.put, List.setIfInBounds_toArray, List.set_cons_zero, List.set_cons_succ]
  refine rg_take 21 (d := (some 11)) (v := .bool true) (by decide) rfl rfl (by kernel_rfl) (by kernel_rfl) (by kernel_rfl) (fun _ _ _ h => h) rfl (fun W => rfl) ?_
  conv => arg 8; simp only [Act.put, List.setIfInBounds_toArray, List.set_cons_zero, List.set_cons_succ]
  refine rg_done (by kernel_rfl) ?_
  have h11 := H8.out.1.keepN k811
  have o11 := H8.out.2.2.2.1.keepN k811
  have H11 := Lib.hid (And.intro h11 o11)
  have kp011 : Kp (fun x => F x ∨ G x) w w11 := (Kp.after (kb.thenN k3) kp38).thenN k811
  clear kp38 h11 o11 k811 ot hT9 bx9
  go_wp2_with fail
  go_loopw [12] (fun i wr => ∃ (q : Nat) (ys : List UInt8), q ≤ T ∧ i = .int .i64 q ∧ ys.length = M ∧ OwB wr 5 (fun z => z = fb) (.slice (some ⟨fb, 0, none⟩) M cf) ys ∧ Kp (fun x => x = fb) w11 wr) (fun i _ => T - (intOf i).toNat)
  case atStart => exact ⟨0, _, Nat.zero_le _, rfl, HM.out.2.2, H11.out.2, Kp.refl _ _⟩
  case round =>
    obtain ⟨q, ys, hq, rfl, hyl, ho, hkq⟩ := hrel
    by_cases hlt : q < T
    · have hqM : q < M := by omega
      have zk := ho.frozenAt q
      obtain ⟨Y, zs, hyb, ck, hp, hzl⟩ : ∃ (Y : Nat) (zs : List UInt8), Y < 256 ∧ wr.cell? ⟨fb, q, none⟩ = some (.int .u8 (Y : Int)) ∧ OwB (wr.setCell ⟨fb, q, none⟩ (.int .u8 (bits BinOp.xor IntKind.u8 (if IntKind.u8.signed = true then -1 else IntKind.u8.max) (Y : Int)))) 5 (fun z => z = fb) (.slice (some ⟨fb, 0, none⟩) M cf) zs ∧ zs.length = M := by
        refine ⟨(ys[q]'(by omega)).toNat, ys.set q (~~~(ys[q]'(by omega))), UInt8.toNat_lt _, ho.byteAt hyl.symm q (by omega), ?_, by simpa using hyl⟩
        have := ho.putB hyl.symm q (~~~(ys[q]'(by omega)))
        rw [bv_notZ] at this
        exact this
      have kp := hkq.setCell (p := ⟨fb, q, none⟩) (.inl rfl) (.int .u8 (bits BinOp.xor IntKind.u8 (if IntKind.u8.signed = true then -1 else IntKind.u8.max) (Y : Int)))
      have HP := Lib.hid (And.intro hp hzl)
      clear ho hp hzl hyl
      go_wp2_with fail
      go_roundw
      case rel => exact ⟨q + 1, _, by omega, by go_num, HP.out.2, HP.out.1, kp⟩
      case measure => exact meas_up hlt
    · have hqT : T = q := by omega
      subst hqT
      have hfin : ActP w0 w F G g r k (actD d ⟨1, oi, b, sz, raw, ch⟩) (.returned (.bool true)) wr := by
        have hA : actD d ⟨1, oi, b, sz, raw, ch⟩ = (writeD d oi tx).2 := by simp [actD, HTX.out]
        rw [hA]
        refine ⟨rfl, kp011.trans hkq (fun _ _ x => x) (fun x hx e => by have := kb.size; omega), F5, G8, k5, hk5, H11.out.1.keep hkq (fun x hx e => hFf5 (by rw [← e]; exact hx)) (fun x hx e => hGf8 (by rw [← e]; exact hx)) (fun x e => ?_)⟩
        rw [e]
        have := H1.out.kp.size
        omega
      have HF := Lib.hid hfin
      clear hfin ho hyl
      go_wp2_with fail
      go_ret
      first | exact HF.out | (simp only [BEq.rfl]; exact HF.out)
end Go.Proofs.Ythkbgbbejgpeaaa
