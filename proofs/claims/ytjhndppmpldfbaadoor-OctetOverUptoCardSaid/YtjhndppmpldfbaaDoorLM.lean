/- OctetOver: what the call does. -/
import Derived.Test.YtjhndppmpldfbaaDoorOR2
import Derived.Test.YtjhndppmpldfbaaDoorOK
import Derived.Test.YtjhndppmpldfbaaDoorO4
import Derived.Test.YtjhndppmpldfbaaDoorP8
import Derived.Test.YtjhndppmpldfbaaDoorUS
import Derived.Deep.DeepCutAuto
import Derived.Deep.CutBlock
namespace Go.Proofs.YtjhndppmpldfbaaDoor
open Go Go.RowKit

theorem RdOps.keepN {w w' : World} {v : Value} {ops : List (Int × Nat × Int)} (h : RdOps w v ops) (k : KpN w w') : RdOps w' v ops := by
  obtain ⟨A, c, rfl, hc, hr⟩ := h
  refine ⟨A, c, rfl, hc, fun j hj => ?_⟩
  obtain ⟨ad, rfl, c0, c1, c2, hb⟩ := hr j hj
  have kc : ∀ i u, w.cell? (ad.add i) = some u → w'.cell? (ad.add i) = some u := fun i u hu => by
    rw [k.cell (World.block_lt_of_cell? w _ hu) (fun x => x)]; exact hu
  exact ⟨ad, rfl, kc _ _ c0, kc _ _ c1, kc _ _ c2, hb⟩
/-- the loop after j rounds -/
def OverRel (n : Nat) (F : Nat → Prop) (g : Nat) (v : Value) (xs : List UInt8) (w1 : World) (ov i : Value) (wr : World) : Prop :=
  ∃ (j a : Nat) (f : Int), j ≤ n ∧ i = .int .i64 j ∧ OwB wr 5 (fun k => w1.heap.size ≤ k) ov (xs.take a) ∧ RdrC wr F g v xs a f ∧ Kp F w1 wr
set_option maxRecDepth 100000 in
set_option maxHeartbeats 3200000 in
theorem over_walk {v s : Value} {xs : List UInt8} {ops : List (Int × Nat × Int)} {w : World} (h : RdB w v xs) (ho : RdOps w s ops) (ht : TabOk w) (hb : xs.length ≤ 1000000000) (hbo : ops.length ≤ 1000000000) :
    Calls Tryd.prog 12 #[v, s] w fun e w' => e = .returned (.bool true) ∧ KpN w w' := by
  obtain ⟨A, c, rfl, hc⟩ := h.form
  obtain ⟨B, d, rfl, hd, hops⟩ := id ho
  have HO := Lib.hid hops
  clear hops
  go_enter Tryd.func12, Tryd.ntmps12
  go_wp2_with fail
  refine (new_c h (by omega)).mono ?_
  rintro e w1 ⟨g, u, rfl, r1, k1⟩
  go_wp2_with fail
  refine (knows_c (ht.keepN k1)).mono ?_
  rintro e w2 ⟨rfl, k2⟩
  have r2 := r1.keepN k2
  have hz1 := k1.size
  have hz2 := k2.size
  go_wp2_with fail
  go_loopw [6, 7] (fun ov i wr => OverRel ops.length (Iv w.heap.size w1.heap.size) g u xs w2 ov i wr) (fun _ i _ => ops.length - (intOf i).toNat)
  case atStart => exact ⟨0, 0, 0, by omega, rfl, OwB.nil _ _ _, r2, Kp.refl _ _⟩
  case round =>
    obtain ⟨j, a, f, hj, rfl, oo, rr, kk⟩ := hrel
    by_cases hlt : j < ops.length
    · have k0r : KpN w wr := (k1.thenN k2).fresh kk (fun i h1 => by omega)
      go_wp2_with fail
      refine (left_c rr).mono ?_
      rintro e w3 ⟨rfl, k3⟩
      have k03 := k0r.thenN k3
      obtain ⟨B', c', hB, -, hr⟩ := ho.keepN k03
      injection hB with hB1 hB2 hB3
      subst hB1
      subst hB3
      obtain ⟨ad, rfl, c0, c1, c2, b0, b1, b2⟩ := hr j hlt
      generalize ops[j] = o at *
      obtain ⟨kd, nn, ii⟩ := o
      simp only [Nat.add_zero] at c0 c1 c2 b0 b1 b2
      rw [← add_add] at c1 c2
      change w3.cell? ⟨(ad.add (j * 3)).block, (ad.add (j * 3)).off + 1, none⟩ = _ at c1
      change w3.cell? ⟨(ad.add (j * 3)).block, (ad.add (j * 3)).off + 2, none⟩ = _ at c2
      clear hr
      have hB2 := trivial
      have rr3 := rr.keepN k3
      have oo3 := oo.keepN k3
      have kk3 := kk.thenN k3
      have hz3 := kk3.size
      have hal := rr.le
      go_upto_block 2 with fail
      go_cut [6] (fun ov wx => ∃ (a' : Nat) (f' : Int), OwB wx 5 (fun k => w2.heap.size ≤ k) ov (xs.take a') ∧ RdrC wx (Iv w.heap.size w1.heap.size) g u xs a' f' ∧ Kp (Iv w.heap.size w1.heap.size) w2 wx ∧ (f' ≠ 0 → a' = a))
      case first =>
        by_cases e1 : kd = 1
        · subst e1
          obtain ⟨n', a', f', hN⟩ : ∃ n' a' f', rNum xs a f nn = (n', a', f') := ⟨_, _, _, rfl⟩
          have hC := rdNumber_c (most := nn) rr3 b1
          rw [hN] at hC
          have hov := rNum_over hN
          have hn64 : n' < 18446744073709551616 := by have := rNum_most xs a f nn; rw [hN] at this; simp only at this; omega
          have HV := Lib.hid hov
          clear hov hN
          go_wp2_with fail
          refine hC.mono ?_
          rintro e w4 ⟨rfl, r4, k4⟩
          clear hC
          have o4 := oo3.keep k4 (fun i h1 h2 => by have := h2.2; omega)
          have kk4 := kk3.trans k4 (fun _ _ x => x) (fun _ _ x => x)
          go_wp2_with fail
          refine (err_c r4).mono ?_
          rintro e w5 ⟨rfl, rfl⟩
          by_cases hf : f' = 0
          · subst hf
            go_wp2_with fail
            refine (number_c (n := n') o4.readsB hn64 (by simp; omega)).mono ?_
            rintro e wz ⟨ov, rfl, o5, k5⟩
            rw [HV.out.1 (by trivial)] at o5
            have oz := o5.wide (G := fun k => w2.heap.size ≤ k) (fun k _ hk => by have := hk.1; have := kk4.size; omega)
            go_wp2_with fail
            go_meet
            case rel => exact ⟨a', 0, oz, r4.keepN k5, kk4.thenN k5, fun h => absurd rfl h⟩
          · have hfi : ¬ f' = 0 := hf
            have ha := HV.out.2 hf
            subst ha
            go_wp2_with fail
            go_meet
            case rel => exact ⟨a', f', o4, r4, kk4, fun _ => rfl⟩
        · by_cases e2 : kd = 2
          · subst e2
            obtain ⟨ys, a', f', hN⟩ : ∃ ys a' f', rBytes xs a f ii = (ys, a', f') := ⟨_, _, _, rfl⟩
            have hC := rdBytes_c (most := ii) rr3 (by omega) (fun i hi => by have := hi.2; omega)
            rw [hN] at hC
            have hov := rBytes_over hN
            have hyl := rBytes_len hN
            have HV := Lib.hid hov
            clear hov hN
            go_wp2_with fail
            refine hC.mono ?_
            rintro e w4 ⟨x, rfl, t4, r4, k4⟩
            clear hC
            have o4 := oo3.keep k4 (fun i h1 h2 => by have := h2.2; omega)
            have kk4 := kk3.trans k4 (fun _ _ x => x) (fun _ _ x => x)
            go_wp2_with fail
            refine (err_c r4).mono ?_
            rintro e w5 ⟨rfl, rfl⟩
            by_cases hf : f' = 0
            · subst hf
              go_wp2_with fail
              refine (bytes_c o4.readsB t4.readsB (by simp; omega)).mono ?_
              rintro e wz ⟨ov, rfl, o5, k5⟩
              rw [lb, HV.out.1 (by trivial)] at o5
              have oz := o5.wide (G := fun k => w2.heap.size ≤ k) (fun k _ hk => by have := hk.1; have := kk4.size; omega)
              go_wp2_with fail
              go_meet
              case rel => exact ⟨a', 0, oz, r4.keepN k5, kk4.thenN k5, fun h => absurd rfl h⟩
            · have hfi : ¬ f' = 0 := hf
              have ha := HV.out.2 hf
              subst ha
              go_wp2_with fail
              go_meet
              case rel => exact ⟨a', f', o4, r4, kk4, fun _ => rfl⟩
          · by_cases e3 : kd = 3
            · subst e3
              obtain ⟨ys, a', f', hN⟩ : ∃ ys a' f', rTake xs a f ii = (ys, a', f') := ⟨_, _, _, rfl⟩
              have hC := rdTake_c (n := ii) rr3 (by omega)
              rw [hN] at hC
              have hov := rTake_over hN
              have hyl := rTake_len hN
              have HV := Lib.hid hov
              clear hov hN
              go_wp2_with fail
              refine hC.mono ?_
              rintro e w4 ⟨x, rfl, t4, r4, k4⟩
              clear hC
              have o4 := oo3.keep k4 (fun i h1 h2 => by have := h2.2; omega)
              have kk4 := kk3.trans k4 (fun _ _ x => x) (fun _ _ x => x)
              obtain ⟨v2, wz, r2, o5, k5, _⟩ := run_appB (P := Tryd.prog) (ty := 22) w4 Tryd.underlying22 u8info o4 t4.readsB (by simp; omega)
              rw [HV.out.1] at o5
              have hz4 := kk4.size
              have oz := o5.wide (G := fun k => w2.heap.size ≤ k) (fun k _ hk => by rcases hk with hk | hk; exact hk; have := hk.1; omega)
              have kz := kk4.trans k5 (fun _ _ x => x) (fun i hi e => by have := o4.fit i e; omega)
              have rz := r4.keep k5 (fun i hi e => by have := o4.fit i e; have := hi.2; omega)
              have hfa := HV.out.2
              have HFA := Lib.hid hfa
              clear hfa o5 k5 o4 r4 kk4 HV
              go_wp2_with (refine app_op r2 rfl rfl ?_)
              go_meet
              case rel => exact ⟨a', f', oz, rz, kz, HFA.out⟩
            · go_wp2_with fail
              go_meet
              case rel => exact ⟨a, f, oo3, rr3, kk3, fun _ => rfl⟩
      case rest =>
        obtain ⟨a', f', o4, r4, k4, hfa⟩ := hcut
        have HFA := Lib.hid hfa
        clear hfa oo rr kk oo3 rr3 kk3 c0 c1 c2
        go_upto_region 20 with fail
        go_cut [81] (fun b wx => b = .bool false ∧ OwB wx 5 (fun k => w2.heap.size ≤ k) u6 (xs.take a') ∧ RdrC wx (Iv w.heap.size w1.heap.size) g u xs a' f' ∧ Kp (Iv w.heap.size w1.heap.size) w2 wx)
        case first =>
          go_wp2_with fail
          refine (err_c r4).mono ?_
          rintro e w5 ⟨rfl, rfl⟩
          by_cases hf : f' = 0
          · subst hf
            go_wp2_with fail
            go_meet
            case rel => exact ⟨rfl, o4, r4, k4⟩
          · have hfi : ¬ f' = 0 := hf
            have ha := HFA.out hf
            subst ha
            have HL := left_c r4
            go_wp2_with fail
            refine HL.mono ?_
            rintro e w6 ⟨rfl, k6⟩
            go_wp2_with fail
            go_meet
            case rel => exact ⟨rfl, o4.keepN k6, r4.keepN k6, k4.thenN k6⟩
        case rest =>
          obtain ⟨rfl, o5, r5, k5⟩ := hcut
          clear o4 r4 k4 HFA
          have hal5 := r5.le
          have k05 : KpN w wc := (k1.thenN k2).fresh k5 (fun i h1 => by omega)
          have hta : (xs.take a').length = a' := by simp; omega
          obtain ⟨B, c4, hov, hd4⟩ := o5.readsB.form
          rw [hta] at hov hd4
          subst hov
          have hac : (a' : Int) ≤ (c : Int) := by omega
          have hax : ¬ (xs.length : Int) < (a' : Int) := by omega
          obtain ⟨la, hla⟩ : ∃ la, xs.length - a' = la := ⟨_, rfl⟩
          have e1 : (a' : Int) + (la : Int) = (xs.length : Int) := by omega
          have HTA := Lib.hid hta
          have HLA := Lib.hid hla
          clear hta hla hc hd
          go_wp2_with fail
          refine rg_begin 25 (fun _ => False) (by kernel_rfl) (fun w6 d6 => ?_)
          have hL := left_c (r5.keepN d6)
          rw [HLA.out] at hL
          refine rg_take 0 (d := (some 82)) (v := .slice B a' c4) (by decide) rfl rfl (by kernel_rfl) (by kernel_rfl) (by kernel_rfl) (fun _ _ _ h => h) rfl (fun W => rfl) ?_
          conv => arg 8; simp only [Act.put, List.setIfInBounds_toArray, List.set_cons_zero, List.set_cons_succ]
          refine rg_take 1 (d := (some 83)) (v := .int .i64 a') (by decide) rfl rfl (by kernel_rfl) (by kernel_rfl) (by kernel_rfl) (fun _ _ _ h => h) rfl (fun W => by go_simp) ?_
          conv => arg 8; simp only [Act.put, List.setIfInBounds_toArray, List.set_cons_zero, List.set_cons_succ]
          refine rg_take 2 (d := (some 84)) (v := .slice A xs.length c) (by decide) rfl rfl (by kernel_rfl) (by kernel_rfl) (by kernel_rfl) (fun _ _ _ h => h) rfl (fun W => rfl) ?_
          conv => arg 8; simp only [Act.put, List.setIfInBounds_toArray, List.set_cons_zero, List.set_cons_succ]
          refine rg_take 3 (d := (some 85)) (v := .int .i64 xs.length) (by decide) rfl rfl (by kernel_rfl) (by kernel_rfl) (by kernel_rfl) (fun _ _ _ h => h) rfl (fun W => by go_simp) ?_
          conv => arg 8; simp only [Act.put, List.setIfInBounds_toArray, List.set_cons_zero, List.set_cons_succ]
          refine rg_take 4 (d := (some 86)) (v := .bool false) (by decide) rfl rfl (by kernel_rfl) (by kernel_rfl) (by kernel_rfl) (fun _ _ _ h => h) rfl (fun W => by go_simp) ?_
          conv => arg 8; simp only [Act.put, List.setIfInBounds_toArray, List.set_cons_zero, List.set_cons_succ]
          refine rg_take 5 (d := (some 87)) (v := .bool false) (by decide) rfl rfl (by kernel_rfl) (by kernel_rfl) (by kernel_rfl) (fun _ _ _ h => h) rfl (fun W => rfl) ?_
          conv => arg 8; simp only [Act.put, List.setIfInBounds_toArray, List.set_cons_zero, List.set_cons_succ]
          refine rg_take 6 (d := (some 88)) (v := .slice B a' c4) (by decide) rfl rfl (by kernel_rfl) (by kernel_rfl) (by kernel_rfl) (fun _ _ _ h => h) rfl (fun W => rfl) ?_
          conv => arg 8; simp only [Act.put, List.setIfInBounds_toArray, List.set_cons_zero, List.set_cons_succ]
          refine rg_take 7 (d := (some 89)) (v := .int .i64 a') (by decide) rfl rfl (by kernel_rfl) (by kernel_rfl) (by kernel_rfl) (fun _ _ _ h => h) rfl (fun W => by go_simp) ?_
          conv => arg 8; simp only [Act.put, List.setIfInBounds_toArray, List.set_cons_zero, List.set_cons_succ]
          refine rg_take 8 (d := (some 90)) (v := .pointer (some ⟨g, 0, none⟩)) (by decide) rfl rfl (by kernel_rfl) (by kernel_rfl) (by kernel_rfl) (fun _ _ _ h => h) rfl (fun W => rfl) ?_
          conv => arg 8; simp only [Act.put, List.setIfInBounds_toArray, List.set_cons_zero, List.set_cons_succ]
          refine rg_take 11 (d := (some 93)) (v := .slice A xs.length c) (by decide) rfl rfl (by kernel_rfl) (by kernel_rfl) (by kernel_rfl) (fun _ _ _ h => h) rfl (fun W => rfl) ?_
          conv => arg 8; simp only [Act.put, List.setIfInBounds_toArray, List.set_cons_zero, List.set_cons_succ]
          refine rg_take 12 (d := (some 94)) (v := .int .i64 xs.length) (by decide) rfl rfl (by kernel_rfl) (by kernel_rfl) (by kernel_rfl) (fun _ _ _ h => h) rfl (fun W => by go_simp) ?_
          conv => arg 8; simp only [Act.put, List.setIfInBounds_toArray, List.set_cons_zero, List.set_cons_succ]
          refine rg_call 9 (d := (some 91)) (by kernel_rfl) (hL) rfl rfl (by kernel_rfl) rfl rfl ?_
          rintro e w7 ⟨rfl, k7⟩
          refine ⟨_, rfl, k7, ?_⟩
          conv => arg 8; simp only [Act.put, List.setIfInBounds_toArray, List.set_cons_zero, List.set_cons_succ]
          have k67 := d6.thenN k7
          have r0 := (h.keepN (k05.thenN k67)).take a' (by omega)
          have ro := (o5.keepN k67).readsB
          refine rg_take 10 (d := (some 92)) (v := .int .i64 xs.length) (by decide) rfl rfl (by kernel_rfl) (by kernel_rfl) (by kernel_rfl) (fun _ _ _ h => h) rfl (fun W => by go_simp; exact wrap_id64 _ (by omega) (by omega)) ?_
          conv => arg 8; simp only [Act.put, List.setIfInBounds_toArray, List.set_cons_zero, List.set_cons_succ]
          refine rg_take 13 (d := (some 95)) (v := .bool false) (by decide) rfl rfl (by kernel_rfl) (by kernel_rfl) (by kernel_rfl) (fun _ _ _ h => h) rfl (fun W => by go_simp) ?_
          conv => arg 8; simp only [Act.put, List.setIfInBounds_toArray, List.set_cons_zero, List.set_cons_succ]
          refine rg_take 14 (d := (some 96)) (v := .bool false) (by decide) rfl rfl (by kernel_rfl) (by kernel_rfl) (by kernel_rfl) (fun _ _ _ h => h) rfl (fun W => rfl) ?_
          conv => arg 8; simp only [Act.put, List.setIfInBounds_toArray, List.set_cons_zero, List.set_cons_succ]
          refine rg_take 15 (d := (some 97)) (v := .bool false) (by decide) rfl rfl (by kernel_rfl) (by kernel_rfl) (by kernel_rfl) (fun _ _ _ h => h) rfl (fun W => rfl) ?_
          conv => arg 8; simp only [Act.put, List.setIfInBounds_toArray, List.set_cons_zero, List.set_cons_succ]
          refine rg_take 16 (d := (some 98)) (v := .slice A xs.length c) (by decide) rfl rfl (by kernel_rfl) (by kernel_rfl) (by kernel_rfl) (fun _ _ _ h => h) rfl (fun W => rfl) ?_
          conv => arg 8; simp only [Act.put, List.setIfInBounds_toArray, List.set_cons_zero, List.set_cons_succ]
          refine rg_take 17 (d := (some 99)) (v := .slice B a' c4) (by decide) rfl rfl (by kernel_rfl) (by kernel_rfl) (by kernel_rfl) (fun _ _ _ h => h) rfl (fun W => rfl) ?_
          conv => arg 8; simp only [Act.put, List.setIfInBounds_toArray, List.set_cons_zero, List.set_cons_succ]
          refine rg_take 18 (d := (some 100)) (v := .int .i64 a') (by decide) rfl rfl (by kernel_rfl) (by kernel_rfl) (by kernel_rfl) (fun _ _ _ h => h) rfl (fun W => by go_simp) ?_
          conv => arg 8; simp only [Act.put, List.setIfInBounds_toArray, List.set_cons_zero, List.set_cons_succ]
          refine rg_take 19 (d := (some 101)) (v := .slice A a' c) (by decide) rfl rfl (by kernel_rfl) (by kernel_rfl) (by kernel_rfl) (fun _ _ _ h => h) rfl (fun W => by go_simp) ?_
          conv => arg 8; simp only [Act.put, List.setIfInBounds_toArray, List.set_cons_zero, List.set_cons_succ]
          refine rg_conv 20 (d := (some 102)) (r0) (fun _ _ x => x) Tryd.underlying22 Tryd.underlying5 Tryd.underlying9 (by decide) (by kernel_rfl) (by kernel_rfl) rfl rfl (by kernel_rfl) (by kernel_rfl) (by kernel_rfl) (fun _ _ _ h => h) rfl rfl ?_
          conv => arg 8; simp only [Act.put, List.setIfInBounds_toArray, List.set_cons_zero, List.set_cons_succ]
          refine rg_take 21 (d := (some 103)) (v := .slice B a' c4) (by decide) rfl rfl (by kernel_rfl) (by kernel_rfl) (by kernel_rfl) (fun _ _ _ h => h) rfl (fun W => rfl) ?_
          conv => arg 8; simp only [Act.put, List.setIfInBounds_toArray, List.set_cons_zero, List.set_cons_succ]
          refine rg_conv1 22 (d := (some 104)) (ro) Tryd.underlying22 Tryd.underlying5 Tryd.underlying9 rfl rfl (by kernel_rfl) rfl rfl ?_
          conv => arg 8; simp only [Act.put, List.setIfInBounds_toArray, List.set_cons_zero, List.set_cons_succ]
          refine rg_take 23 (d := (some 105)) (v := .bool false) (by decide) rfl rfl (by kernel_rfl) (by kernel_rfl) (by kernel_rfl) (fun _ _ _ h => h) rfl (fun W => by go_simp) ?_
          conv => arg 8; simp only [Act.put, List.setIfInBounds_toArray, List.set_cons_zero, List.set_cons_succ]
          refine rg_take 24 (d := (some 106)) (v := .bool false) (by decide) rfl rfl (by kernel_rfl) (by kernel_rfl) (by kernel_rfl) (fun _ _ _ h => h) rfl (fun W => rfl) ?_
          conv => arg 8; simp only [Act.put, List.setIfInBounds_toArray, List.set_cons_zero, List.set_cons_succ]
          refine rg_done (by kernel_rfl) ?_
          go_wp2
          go_roundw
          case rel => exact ⟨j + 1, a', f', by omega, by go_num, o5.keepN k67, r5.keepN k67, k5.thenN k67⟩
          case measure => exact meas_up hlt
    · have k0r : KpN w wr := (k1.thenN k2).fresh kk (fun i h1 => by omega)
      go_wp2
      go_ret
      exact ⟨rfl, k0r⟩
end Go.Proofs.YtjhndppmpldfbaaDoor
