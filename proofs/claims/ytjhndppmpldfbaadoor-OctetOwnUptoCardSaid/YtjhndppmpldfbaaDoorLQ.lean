/- OctetOwn: the whole. -/
import Derived.Test.YtjhndppmpldfbaaDoorLP
namespace Go.Proofs.YtjhndppmpldfbaaDoor
open Go Go.RowKit

theorem rep3 {α : Type} (A B : List α) (n : Nat) (hA : A.length = n) (hB : B.length = n) (i : Nat) (hi : i < n) (d : α) : (A ++ B ++ A).getD i d = (A ++ B ++ A).getD (2 * n + i) d := by
  simp only [List.getD, List.append_assoc]
  rw [List.getElem?_append_left (by omega), List.getElem?_append_right (by omega), List.getElem?_append_right (by omega)]
  congr 2
  omega
theorem asksS_len (xs : List UInt8) (n : Nat) (at_ : Int) (mask : Nat) (hn : n < 18446744073709551616) (hx : xs.length < 18446744073709551616) : ∀ y ∈ asksS xs n at_ mask, y.length ≤ 2 * xs.length + 10 := by
  intro y hy
  have h1 := sd_length n hn
  have h2 := lb_length xs hx
  have h3 := sl_length xs
  have h4 : (burst xs at_ mask).length = xs.length := burstGo_length xs at_ mask 32
  simp only [asksS, List.mem_cons, List.not_mem_nil, or_false] at hy
  rcases hy with rfl | rfl | rfl | rfl | rfl | rfl | rfl <;> (try rw [List.length_append]) <;> omega
def mkS (i l : Nat) : List UInt8 := List.replicate l (UInt8.ofNat (100 + i)) ++ List.replicate 64 (UInt8.ofNat (200 + i))
theorem repl_set (Y : List UInt8) (c : UInt8) (j : Nat) (h : j < Y.length) : (List.replicate j c ++ Y.drop j).set j c = List.replicate (j + 1) c ++ Y.drop (j + 1) := by
  have e := List.drop_eq_getElem_cons h
  rw [List.set_append_right _ _ (by simp), List.replicate_succ', List.append_assoc, List.length_replicate, Nat.sub_self, e]
  rfl
theorem bv_num (x : Nat) (h : x < 256) : bv (UInt8.ofNat x) = .int .u8 (x : Int) := by
  rw [bv, show (UInt8.ofNat x).toNat = x by simp; omega]
def Own1 (w6 : World) (i : Value) (wr : World) : Prop := ∃ j : Nat, j ≤ 7 ∧ i = .int .i64 j ∧ KpN w6 wr
theorem strinfo : (Tryd.prog.info? 9).map (fun i => (i.zero, i.size, i.bytes)) = some (some (.string ⟨#[]⟩), 1, 16) := by kernel_rfl
/-- the loop that marks and grows, behind i rounds -/
def OwnRel (L : Nat → Nat) (F : Nat → Prop) (v : Value) (z : World) (wv iv : Value) (wr : World) : Prop :=
  ∃ (i : Nat) (ls : List (Value × List UInt8)), i ≤ 21 ∧ iv = .int .i64 i ∧ ls.length = 21 ∧ Own2 wr 22 5 F v ls ∧ (∀ m (_ : m < ls.length), m < i → ls[m].2 = mkS m (L m)) ∧ (∀ m (_ : m < ls.length), i ≤ m → ls[m].2.length = L m) ∧
    OwC wr 9 1 F wv i ((List.range i).map fun m => Value.string (bs (mkS m (L m)))) ∧ Kp F z wr
/-- .. its inner loops -/
def OwnIn1 (n : Nat) (c : UInt8) (Y : List UInt8) (F : Nat → Prop) (a : Value) (z : World) (sv jv : Value) (wr : World) : Prop :=
  ∃ j : Nat, j ≤ n ∧ jv = .int .i64 j ∧ sv = .string (bs (List.replicate j c)) ∧ OwB wr 5 F a (List.replicate j c ++ Y.drop j) ∧ Kp (fun k => a.ownBlock = some k) z wr
def OwnIn2 (i n : Nat) (c c2 : UInt8) (F : Nat → Prop) (v wv : Value) (ls : List (Value × List UInt8)) (ws : List Value) (z : World) (sv jv : Value) (wr : World) : Prop :=
  ∃ (j : Nat) (u : Value), j ≤ 64 ∧ jv = .int .i64 j ∧ sv = .string (bs (List.replicate n c ++ List.replicate j c2)) ∧ Own2 wr 22 5 F v (ls.set i (u, List.replicate n c ++ List.replicate j c2)) ∧ OwC wr 9 1 F wv i ws ∧ Kp F z wr
set_option maxRecDepth 100000 in
set_option maxHeartbeats 3200000 in
theorem own_walk {v v' : Value} {xs ys : List UInt8} {n mask : Nat} {at_ : Int} {w : World} (h : RdB w v xs) (h' : RdB w v' ys) (ht : TabOk w) (hb : xs.length ≤ 1000000000) (hb' : ys.length ≤ 1000000000) (hn : n < 18446744073709551616) (ha : -9223372036854775808 ≤ at_ ∧ at_ ≤ 9223372036854775807) (hm : mask < 4294967296) :
    Calls Tryd.prog 15 #[v, v', .int .u64 (n : Int), .int .i64 at_, .int .u32 (mask : Int)] w fun e w' => e = .returned (.bool true) ∧ KpN w w' := by
  obtain ⟨A, c, rfl, hc⟩ := h.form
  obtain ⟨B, d, rfl, hd⟩ := h'.form
  go_enter Tryd.func15, Tryd.ntmps15
  go_wp2_with fail
  refine (knows_c ht).mono ?_
  rintro e w0 ⟨rfl, k0⟩
  go_wp2_with fail
  refine (asks_c (h.keepN k0) (ht.keepN k0) hb hn ha hm).mono ?_
  rintro e w1 ⟨u1, l1, rfl, hs1, O1, k1⟩
  have hl1 : l1.length = 7 := by have := congrArg List.length hs1; simpa [asksS] using this
  have HS1 := Lib.hid hs1
  obtain ⟨v2, w2, r2, P2, k2⟩ := run_app2 (P := Tryd.prog) (ty := 61) w1 Tryd.underlying61 rowinfo rfl (Own2.nil w1 22 5 (fun _ => False)) O1 (fun _ x => x.elim) (by simp; omega) (by simp; omega)
  have hz0 := k0.size
  have hz1 := k1.size
  have hz2 := k2.size
  have k02 : KpN w w2 := (k0.thenN k1).fresh k2 (fun i hi => by simp [Value.ownBlock] at hi)
  have C2 := P2.wide (G := Iv w.heap.size w2.heap.size) (fun k hk hf => ⟨by rcases hf with hf | hf | hf; exact hf.elim; all_goals (have := hf.1; omega), hk⟩)
  rw [List.nil_append] at C2
  have HL1 := Lib.hid hl1
  clear P2 O1 k0 k1 k2 hs1 hl1
  go_wp2_with (refine app_op r2 rfl rfl ?_)
  refine (asks_c (h'.keepN k02) (ht.keepN k02) hb' hn ha hm).mono ?_
  rintro e w3 ⟨u3, l3, rfl, hs3, O3, k3⟩
  have hl3 : l3.length = 7 := by have := congrArg List.length hs3; simpa [asksS] using this
  have HS3 := Lib.hid hs3
  have hl1 := HL1.out
  obtain ⟨v4, w4, r4, P4, k4⟩ := run_app2 (P := Tryd.prog) (ty := 61) w3 Tryd.underlying61 rowinfo rfl (C2.keepN k3) O3 (fun i h1 h2 => by have := h1.2; have := h2.1; omega) (by omega) (by omega)
  have hz3 := k3.size
  have hz4 := k4.size
  have k04 : KpN w w4 := (k02.thenN k3).fresh k4 (fun i hi => (C2.row.fit i hi).1)
  have C4 := P4.wide (G := Iv w.heap.size w4.heap.size) (fun k hk hf => ⟨by rcases hf with hf | hf | hf <;> have := hf.1 <;> omega, hk⟩)
  have HL3 := Lib.hid hl3
  clear P4 O3 k02 k3 k4 C2 hs3 hl3 hl1 r2
  go_wp2_with (refine app_op r4 rfl rfl ?_)
  refine (asks_c (h.keepN k04) (ht.keepN k04) hb hn ha hm).mono ?_
  rintro e w5 ⟨u5, l5, rfl, hs5, O5, k5⟩
  have hl5 : l5.length = 7 := by have := congrArg List.length hs5; simpa [asksS] using this
  have HS5 := Lib.hid hs5
  have hl1 := HL1.out
  have hl3 := HL3.out
  obtain ⟨v6, w6, r6, P6, k6⟩ := run_app2 (P := Tryd.prog) (ty := 61) w5 Tryd.underlying61 rowinfo rfl (C4.keepN k5) O5 (fun i h1 h2 => by have := h1.2; have := h2.1; omega) (by simp; omega) (by simp; omega)
  have hz5 := k5.size
  have hz6 := k6.size
  have k06 : KpN w w6 := (k04.thenN k5).fresh k6 (fun i hi => (C4.row.fit i hi).1)
  have C6 := P6.wide (G := fun k => w.heap.size ≤ k) (fun k hk hf => by rcases hf with hf | hf | hf <;> have := hf.1 <;> omega)
  obtain ⟨ls, hls⟩ : ∃ ls, l1 ++ l3 ++ l5 = ls := ⟨_, rfl⟩
  have hcont : ls.map Prod.snd = asksS xs n at_ mask ++ asksS ys n at_ mask ++ asksS xs n at_ mask := by rw [← hls]; simp only [List.map_append, HS1.out, HS3.out, HS5.out]
  have hlen : ls.length = 21 := by rw [← hls]; simp; omega
  rw [hls] at C6
  obtain ⟨g, cap, hv6, hg, hcap⟩ := C6.form (by omega)
  rw [hlen] at hv6 hcap
  subst hv6
  have HC := Lib.hid hcont
  have HLN := Lib.hid hlen
  clear P6 O5 k04 k5 k6 C4 hs5 hl5 hl1 hl3 r4 hls hcont hlen
  have hget : ∀ i (hi : i < ls.length), ls[i].2 = (asksS xs n at_ mask ++ asksS ys n at_ mask ++ asksS xs n at_ mask).getD i [] := fun i hi => by
    rw [← HC.out]
    simp [List.getD, hi]
  have HG := Lib.hid hget
  have hlens : ∀ i (hi : i < ls.length), ls[i].2.length ≤ 10000000000 := fun i hi => by
    have hmem : ls[i].2 ∈ ls.map Prod.snd := List.mem_map.2 ⟨ls[i], List.getElem_mem hi, rfl⟩
    rw [HC.out] at hmem
    simp only [List.mem_append] at hmem
    rcases hmem with (hmem | hmem) | hmem
    · have := asksS_len _ _ _ _ hn (by omega) _ hmem; omega
    · have := asksS_len _ _ _ _ hn (by omega) _ hmem; omega
    · have := asksS_len _ _ _ _ hn (by omega) _ hmem; omega
  have HLE := Lib.hid hlens
  clear hget hlens
  go_wp2_with (refine app_op r6 rfl rfl ?_)
  go_loopw [13] (fun i wr => Own1 w6 i wr) (fun i _ => 7 - (intOf i).toNat)
  case atStart => exact ⟨0, by omega, rfl, Kp.refl _ _⟩
  case round =>
    obtain ⟨j, hj, rfl, kk⟩ := hrel
    by_cases hlt : j < 7
    · have hlen := HLN.out
      have e1 : (14 : Int) + (j : Int) = ((14 + j : Nat) : Int) := by omega
      obtain ⟨m, hm14⟩ : ∃ m, 14 + j = m := ⟨_, rfl⟩
      rw [hm14] at e1
      have hm21 : m < ls.length := by omega
      have hj21 : j < ls.length := by omega
      have hsame : ls[m].2 = ls[j].2 := by
        rw [HG.out m hm21, HG.out j hj21, ← hm14]
        exact (rep3 _ _ 7 (by rfl) (by rfl) j hlt []).symm
      have Cr := C6.keepN kk
      obtain ⟨aj, haj⟩ : ∃ a, ls[j].1 = a := ⟨_, rfl⟩
      obtain ⟨am, ham⟩ : ∃ a, ls[m].1 = a := ⟨_, rfl⟩
      have cj := Cr.cellAt j hj21
      have cm := Cr.cellAt m hm21
      have rj := (Cr.each j hj21).readsB
      have rm := (Cr.each m hm21).readsB
      rw [haj] at cj rj
      rw [ham, hsame] at rm
      rw [ham] at cm
      have hglt := Cr.row.lt g rfl
      clear hsame haj ham hm14 hlen
      have hm21i : (m : Int) < 21 := by have := HLN.out; omega
      have hj21i : (j : Int) < 21 := by omega
      generalize ls[j].2 = Y at *
      go_wp2_with fail
      refine rg_begin 14 (fun _ => False) (by kernel_rfl) (fun w7 d7 => ?_)
      refine rg_take 0 (d := (some 51)) (v := .slice (some ⟨g, 0, none⟩) 21 cap) (by decide) rfl rfl (by kernel_rfl) (by kernel_rfl) (by kernel_rfl) (fun _ _ _ h => h) rfl (fun W => rfl) ?_
      conv => arg 8; simp only [Act.put, List.setIfInBounds_toArray, List.set_cons_zero, List.set_cons_succ]
      refine rg_take 1 (d := (some 52)) (v := .int .i64 j) (by decide) rfl rfl (by kernel_rfl) (by kernel_rfl) (by kernel_rfl) (fun _ _ _ h => h) rfl (fun W => rfl) ?_
      conv => arg 8; simp only [Act.put, List.setIfInBounds_toArray, List.set_cons_zero, List.set_cons_succ]
      refine rg_take 2 (d := (some 53)) (v := .pointer (some ⟨g, j, none⟩)) (by decide) rfl rfl (by kernel_rfl) (by kernel_rfl) (by kernel_rfl) (fun _ _ _ h => h) rfl (fun W => by go_simp) ?_
      conv => arg 8; simp only [Act.put, List.setIfInBounds_toArray, List.set_cons_zero, List.set_cons_succ]
      refine rg_read 3 (d := (some 54)) (v := aj) (by decide) (by kernel_rfl) (by kernel_rfl) rfl rfl (by kernel_rfl) (by kernel_rfl) (by kernel_rfl) (fun _ _ _ h => h) rfl (fun W hW => by have hc := (hW.cell (p := ⟨g, j, none⟩) (Nat.lt_of_lt_of_le hglt d7.size) (fun x => x)).trans ((d7.cell hglt (fun x => x)).trans cj); go_simp) ?_
      conv => arg 8; simp only [Act.put, List.setIfInBounds_toArray, List.set_cons_zero, List.set_cons_succ]
      refine rg_conv 4 (d := (some 55)) (rj.keepN d7) (fun _ _ x => x) Tryd.underlying22 Tryd.underlying5 Tryd.underlying9 (by decide) (by kernel_rfl) (by kernel_rfl) rfl rfl (by kernel_rfl) (by kernel_rfl) (by kernel_rfl) (fun _ _ _ h => h) rfl rfl ?_
      conv => arg 8; simp only [Act.put, List.setIfInBounds_toArray, List.set_cons_zero, List.set_cons_succ]
      refine rg_take 5 (d := (some 56)) (v := .slice (some ⟨g, 0, none⟩) 21 cap) (by decide) rfl rfl (by kernel_rfl) (by kernel_rfl) (by kernel_rfl) (fun _ _ _ h => h) rfl (fun W => rfl) ?_
      conv => arg 8; simp only [Act.put, List.setIfInBounds_toArray, List.set_cons_zero, List.set_cons_succ]
      refine rg_take 6 (d := (some 57)) (v := .int .i64 7) (by decide) rfl rfl (by kernel_rfl) (by kernel_rfl) (by kernel_rfl) (fun _ _ _ h => h) rfl (fun W => rfl) ?_
      conv => arg 8; simp only [Act.put, List.setIfInBounds_toArray, List.set_cons_zero, List.set_cons_succ]
      refine rg_take 7 (d := (some 58)) (v := .int .i64 14) (by decide) rfl rfl (by kernel_rfl) (by kernel_rfl) (by kernel_rfl) (fun _ _ _ h => h) rfl (fun W => by go_simp; exact wrap_id64 _ (by omega) (by omega)) ?_
      conv => arg 8; simp only [Act.put, List.setIfInBounds_toArray, List.set_cons_zero, List.set_cons_succ]
      refine rg_take 8 (d := (some 59)) (v := .int .i64 j) (by decide) rfl rfl (by kernel_rfl) (by kernel_rfl) (by kernel_rfl) (fun _ _ _ h => h) rfl (fun W => rfl) ?_
      conv => arg 8; simp only [Act.put, List.setIfInBounds_toArray, List.set_cons_zero, List.set_cons_succ]
      refine rg_take 9 (d := (some 60)) (v := .int .i64 m) (by decide) rfl rfl (by kernel_rfl) (by kernel_rfl) (by kernel_rfl) (fun _ _ _ h => h) rfl (fun W => by go_simp; exact wrap_id64 _ (by omega) (by omega)) ?_
      conv => arg 8; simp only [Act.put, List.setIfInBounds_toArray, List.set_cons_zero, List.set_cons_succ]
      refine rg_take 10 (d := (some 61)) (v := .pointer (some ⟨g, m, none⟩)) (by decide) rfl rfl (by kernel_rfl) (by kernel_rfl) (by kernel_rfl) (fun _ _ _ h => h) rfl (fun W => by go_simp) ?_
      conv => arg 8; simp only [Act.put, List.setIfInBounds_toArray, List.set_cons_zero, List.set_cons_succ]
      refine rg_read 11 (d := (some 62)) (v := am) (by decide) (by kernel_rfl) (by kernel_rfl) rfl rfl (by kernel_rfl) (by kernel_rfl) (by kernel_rfl) (fun _ _ _ h => h) rfl (fun W hW => by have hc := (hW.cell (p := ⟨g, m, none⟩) (Nat.lt_of_lt_of_le hglt d7.size) (fun x => x)).trans ((d7.cell hglt (fun x => x)).trans cm); go_simp) ?_
      conv => arg 8; simp only [Act.put, List.setIfInBounds_toArray, List.set_cons_zero, List.set_cons_succ]
      refine rg_conv1 12 (d := (some 63)) (rm.keepN d7) Tryd.underlying22 Tryd.underlying5 Tryd.underlying9 rfl rfl (by kernel_rfl) rfl rfl ?_
      conv => arg 8; simp only [Act.put, List.setIfInBounds_toArray, List.set_cons_zero, List.set_cons_succ]
      refine rg_take 13 (d := (some 64)) (v := .bool false) (by decide) rfl rfl (by kernel_rfl) (by kernel_rfl) (by kernel_rfl) (fun _ _ _ h => h) rfl (fun W => by go_simp) ?_
      conv => arg 8; simp only [Act.put, List.setIfInBounds_toArray, List.set_cons_zero, List.set_cons_succ]
      refine rg_done (by kernel_rfl) ?_
      go_wp2
      go_roundw
      case rel => exact ⟨j + 1, by omega, by go_num, kk.thenN d7⟩
      case measure => exact meas_up hlt
    · have hlen := HLN.out
      have C6r := C6.keepN kk
      have k0r := k06.thenN kk
      have h2l : 2 < ls.length := by omega
      have h9l : 9 < ls.length := by omega
      obtain ⟨a2, ha2⟩ : ∃ a, ls[2].1 = a := ⟨_, rfl⟩
      obtain ⟨a9, ha9⟩ : ∃ a, ls[9].1 = a := ⟨_, rfl⟩
      have c2 := C6r.cellAt 2 h2l
      have c9 := C6r.cellAt 9 h9l
      have q2 := (C6r.each 2 h2l).readsB
      have q9 := (C6r.each 9 h9l).readsB
      rw [HG.out 2 h2l, ha2] at q2
      rw [HG.out 9 h9l, ha9] at q9
      change RdB wr a2 (xs ++ sl xs) at q2
      change RdB wr a9 (ys ++ sl ys) at q9
      rw [ha2] at c2
      rw [ha9] at c9
      have hglt := C6r.row.lt g rfl
      clear ha2 ha9 hlen r6 C6 k06 kk
      go_wp2_with fail
      refine rg_begin 20 (fun _ => False) (by kernel_rfl) (fun w7 d7 => ?_)
      have k07 := k0r.thenN d7
      refine rg_take 0 (d := (some 65)) (v := .slice (some ⟨g, 0, none⟩) 21 cap) (by decide) rfl rfl (by kernel_rfl) (by kernel_rfl) (by kernel_rfl) (fun _ _ _ h => h) rfl (fun W => rfl) ?_
      conv => arg 8; simp only [Act.put, List.setIfInBounds_toArray, List.set_cons_zero, List.set_cons_succ]
      refine rg_take 1 (d := (some 66)) (v := .pointer (some ⟨g, 2, none⟩)) (by decide) rfl rfl (by kernel_rfl) (by kernel_rfl) (by kernel_rfl) (fun _ _ _ h => h) rfl (fun W => by go_simp) ?_
      conv => arg 8; simp only [Act.put, List.setIfInBounds_toArray, List.set_cons_zero, List.set_cons_succ]
      refine rg_read 2 (d := (some 67)) (v := a2) (by decide) (by kernel_rfl) (by kernel_rfl) rfl rfl (by kernel_rfl) (by kernel_rfl) (by kernel_rfl) (fun _ _ _ h => h) rfl (fun W hW => by have hc := (hW.cell (p := ⟨g, 2, none⟩) (Nat.lt_of_lt_of_le hglt d7.size) (fun x => x)).trans ((d7.cell hglt (fun x => x)).trans c2); go_simp) ?_
      conv => arg 8; simp only [Act.put, List.setIfInBounds_toArray, List.set_cons_zero, List.set_cons_succ]
      refine rg_conv 3 (d := (some 68)) (q2.keepN d7) (fun _ _ x => x) Tryd.underlying22 Tryd.underlying5 Tryd.underlying9 (by decide) (by kernel_rfl) (by kernel_rfl) rfl rfl (by kernel_rfl) (by kernel_rfl) (by kernel_rfl) (fun _ _ _ h => h) rfl rfl ?_
      conv => arg 8; simp only [Act.put, List.setIfInBounds_toArray, List.set_cons_zero, List.set_cons_succ]
      refine rg_take 4 (d := (some 69)) (v := .slice A xs.length c) (by decide) rfl rfl (by kernel_rfl) (by kernel_rfl) (by kernel_rfl) (fun _ _ _ h => h) rfl (fun W => rfl) ?_
      conv => arg 8; simp only [Act.put, List.setIfInBounds_toArray, List.set_cons_zero, List.set_cons_succ]
      refine rg_call 5 (d := (some 70)) (by kernel_rfl) (refSealed_c (h.keepN k07) (by omega)) rfl rfl (by kernel_rfl) rfl rfl ?_
      rintro e w8 ⟨a8, rfl, p8, k8⟩
      refine ⟨_, rfl, k8, ?_⟩
      conv => arg 8; simp only [Act.put, List.setIfInBounds_toArray, List.set_cons_zero, List.set_cons_succ]
      have k78 := d7.thenN k8
      refine rg_conv1 6 (d := (some 71)) (p8.readsB) Tryd.underlying22 Tryd.underlying5 Tryd.underlying9 rfl rfl (by kernel_rfl) rfl rfl ?_
      conv => arg 8; simp only [Act.put, List.setIfInBounds_toArray, List.set_cons_zero, List.set_cons_succ]
      refine rg_take 7 (d := (some 72)) (v := .bool false) (by decide) rfl rfl (by kernel_rfl) (by kernel_rfl) (by kernel_rfl) (fun _ _ _ h => h) rfl (fun W => by go_simp) ?_
      conv => arg 8; simp only [Act.put, List.setIfInBounds_toArray, List.set_cons_zero, List.set_cons_succ]
      refine rg_take 8 (d := (some 73)) (v := .bool false) (by decide) rfl rfl (by kernel_rfl) (by kernel_rfl) (by kernel_rfl) (fun _ _ _ h => h) rfl (fun W => rfl) ?_
      conv => arg 8; simp only [Act.put, List.setIfInBounds_toArray, List.set_cons_zero, List.set_cons_succ]
      refine rg_take 9 (d := (some 74)) (v := .slice (some ⟨g, 0, none⟩) 21 cap) (by decide) rfl rfl (by kernel_rfl) (by kernel_rfl) (by kernel_rfl) (fun _ _ _ h => h) rfl (fun W => rfl) ?_
      conv => arg 8; simp only [Act.put, List.setIfInBounds_toArray, List.set_cons_zero, List.set_cons_succ]
      refine rg_take 10 (d := (some 75)) (v := .int .i64 7) (by decide) rfl rfl (by kernel_rfl) (by kernel_rfl) (by kernel_rfl) (fun _ _ _ h => h) rfl (fun W => rfl) ?_
      conv => arg 8; simp only [Act.put, List.setIfInBounds_toArray, List.set_cons_zero, List.set_cons_succ]
      refine rg_take 11 (d := (some 76)) (v := .int .i64 9) (by decide) rfl rfl (by kernel_rfl) (by kernel_rfl) (by kernel_rfl) (fun _ _ _ h => h) rfl (fun W => by go_simp; exact wrap_id64 _ (by omega) (by omega)) ?_
      conv => arg 8; simp only [Act.put, List.setIfInBounds_toArray, List.set_cons_zero, List.set_cons_succ]
      refine rg_take 12 (d := (some 77)) (v := .pointer (some ⟨g, 9, none⟩)) (by decide) rfl rfl (by kernel_rfl) (by kernel_rfl) (by kernel_rfl) (fun _ _ _ h => h) rfl (fun W => by go_simp) ?_
      conv => arg 8; simp only [Act.put, List.setIfInBounds_toArray, List.set_cons_zero, List.set_cons_succ]
      refine rg_read 13 (d := (some 78)) (v := a9) (by decide) (by kernel_rfl) (by kernel_rfl) rfl rfl (by kernel_rfl) (by kernel_rfl) (by kernel_rfl) (fun _ _ _ h => h) rfl (fun W hW => by have hc := (hW.cell (p := ⟨g, 9, none⟩) (Nat.lt_of_lt_of_le hglt k78.size) (fun x => x)).trans ((k78.cell hglt (fun x => x)).trans c9); go_simp) ?_
      conv => arg 8; simp only [Act.put, List.setIfInBounds_toArray, List.set_cons_zero, List.set_cons_succ]
      refine rg_conv 14 (d := (some 79)) (q9.keepN k78) (fun _ _ x => x) Tryd.underlying22 Tryd.underlying5 Tryd.underlying9 (by decide) (by kernel_rfl) (by kernel_rfl) rfl rfl (by kernel_rfl) (by kernel_rfl) (by kernel_rfl) (fun _ _ _ h => h) rfl rfl ?_
      conv => arg 8; simp only [Act.put, List.setIfInBounds_toArray, List.set_cons_zero, List.set_cons_succ]
      refine rg_take 15 (d := (some 80)) (v := .slice B ys.length d) (by decide) rfl rfl (by kernel_rfl) (by kernel_rfl) (by kernel_rfl) (fun _ _ _ h => h) rfl (fun W => rfl) ?_
      conv => arg 8; simp only [Act.put, List.setIfInBounds_toArray, List.set_cons_zero, List.set_cons_succ]
      refine rg_call 16 (d := (some 81)) (by kernel_rfl) (refSealed_c (h'.keepN (k0r.thenN k78)) (by omega)) rfl rfl (by kernel_rfl) rfl rfl ?_
      rintro e w9 ⟨a10, rfl, p9, k9⟩
      refine ⟨_, rfl, k9, ?_⟩
      conv => arg 8; simp only [Act.put, List.setIfInBounds_toArray, List.set_cons_zero, List.set_cons_succ]
      refine rg_conv1 17 (d := (some 82)) (p9.readsB) Tryd.underlying22 Tryd.underlying5 Tryd.underlying9 rfl rfl (by kernel_rfl) rfl rfl ?_
      conv => arg 8; simp only [Act.put, List.setIfInBounds_toArray, List.set_cons_zero, List.set_cons_succ]
      refine rg_take 18 (d := (some 83)) (v := .bool false) (by decide) rfl rfl (by kernel_rfl) (by kernel_rfl) (by kernel_rfl) (fun _ _ _ h => h) rfl (fun W => by go_simp) ?_
      conv => arg 8; simp only [Act.put, List.setIfInBounds_toArray, List.set_cons_zero, List.set_cons_succ]
      refine rg_take 19 (d := (some 84)) (v := .bool false) (by decide) rfl rfl (by kernel_rfl) (by kernel_rfl) (by kernel_rfl) (fun _ _ _ h => h) rfl (fun W => rfl) ?_
      conv => arg 8; simp only [Act.put, List.setIfInBounds_toArray, List.set_cons_zero, List.set_cons_succ]
      refine rg_done (by kernel_rfl) ?_
      have k79 := k78.thenN k9
      have C9 := C6r.keepN k79
      have k09 := k0r.thenN k79
      clear c2 c9 q2 q9 p8 p9 C6r k0r k79 d7 k8 k9 k78 k07 hglt HG HC HS1 HS3 HS5 HL1 HL3
      obtain ⟨L, hL⟩ : ∃ L : Nat → Nat, ∀ m (hm : m < ls.length), ls[m].2.length = L m := ⟨fun m => (ls.getD m (.nilIface, [])).2.length, fun m hm => by simp [List.getD, hm]⟩
      have hLb : ∀ m, m < 21 → L m ≤ 10000000000 := fun m hm => by
        have h1 := HLN.out
        rw [← hL m (by omega)]
        exact HLE.out m (by omega)
      have hLN := HLN.out
      have k9s : KpN w w9 := k09
      have HL := Lib.hid hL
      have HLB := Lib.hid hLb
      have HLN2 := Lib.hid hLN
      clear hL hLb hLN HLE hz0 hz1 hz2 hz3 hz4 hz5 hz6 h2l h9l hj hlt hcap
      go_wp2_with fail
      go_loopw [14, 15] (fun wv iv wr => OwnRel L (fun k => w.heap.size ≤ k) (.slice (some ⟨g, 0, none⟩) 21 cap) w9 wv iv wr) (fun _ iv _ => 21 - (intOf iv).toNat)
      case atStart => exact ⟨0, ls, by omega, rfl, HLN2.out, C9, fun m _ hm => by omega, fun m hm _ => HL.out m hm, OwC.nil _ _ _ _, Kp.refl _ _⟩
      case round =>
        obtain ⟨i, ks, hi, rfl, hkl, Ck, hdone, hrest, Wk, kk⟩ := hrel
        have HD := Lib.hid hdone
        have HR := Lib.hid hrest
        have HKL := Lib.hid hkl
        clear hdone hrest hkl
        by_cases hlt : i < 21
        · have hik : i < ks.length := by have := HKL.out; omega
          obtain ⟨⟨a, Y⟩, haY⟩ : ∃ x, ks[i] = x := ⟨_, rfl⟩
          have oa := Ck.each i hik
          have ca := Ck.cellAt i hik
          have hY := HR.out i hik (Nat.le_refl _)
          rw [haY] at oa ca hY
          simp only at oa ca hY
          have hnb := HLB.out i hlt
          rw [← hY] at hnb
          have hga : ∀ k, a.ownBlock = some k → k ≠ g := fun k hk e => Ck.out i hik g rfl (by rw [haY]; rw [← e]; exact hk)
          have hglt := Ck.row.lt g rfl
          obtain ⟨Ba, na, hva, hca⟩ := oa.readsB.form
          obtain ⟨n1, hn1⟩ : ∃ n1, Y.length = n1 := ⟨_, rfl⟩
          rw [hn1] at hva hca hnb
          have HN1 := Lib.hid hn1
          have HAY := Lib.hid haY
          have HYL := Lib.hid hY
          have hii : (i : Int) < 21 := by omega
          clear haY hn1 hY
          obtain ⟨wo, rfl⟩ : ∃ wo : World, wo = wr := ⟨_, rfl⟩
          obtain ⟨c1, hc1⟩ : ∃ c, UInt8.ofNat (100 + i) = c := ⟨_, rfl⟩
          obtain ⟨c2, hc2⟩ : ∃ c, UInt8.ofNat (200 + i) = c := ⟨_, rfl⟩
          have hb1 : bv c1 = .int .u8 (100 + (i : Int)) := by
            rw [← hc1, bv_num (100 + i) (by omega)]
            congr 1
          have hb2 : bv c2 = .int .u8 (200 + (i : Int)) := by
            rw [← hc2, bv_num (200 + i) (by omega)]
            congr 1
          have hn1' : [UInt8.ofNat (100 + (i : Int)).toNat] = [c1] := by rw [← hc1]; rfl
          have hn2' : [UInt8.ofNat (200 + (i : Int)).toNat] = [c2] := by rw [← hc2]; rfl
          have HB1 := Lib.hid hb1
          have HB2 := Lib.hid hb2
          have HX1 := Lib.hid hn1'
          have HX2 := Lib.hid hn2'
          have HC1 := Lib.hid hc1
          have HC2 := Lib.hid hc2
          clear hc1 hc2 hb1 hb2 hn1' hn2'
          go_wp2_with fail
          go_loopw [16, 17] (fun sv jv wr => OwnIn1 n1 c1 Y (fun k => w.heap.size ≤ k) a wo sv jv wr) (fun _ jv _ => n1 - (intOf jv).toNat)
          case atStart => exact ⟨0, by omega, rfl, rfl, oa, Kp.refl _ _⟩
          case round =>
            obtain ⟨j, hj, rfl, rfl, oj, kj⟩ := hrel
            have cj : wr.cell? ⟨g, i, none⟩ = some a := (kj.cell hglt (fun e => hga g e rfl)).trans ca
            by_cases hjt : j < n1
            · subst hva
              have hlenj : (List.replicate j c1 ++ Y.drop j).length = n1 := by simp; have := HN1.out; omega
              obtain ⟨ga, na', hvA, hgaF, -⟩ := oj.form (by rw [hlenj]; omega)
              rw [hlenj] at hvA
              injection hvA with hB1 _ hB3
              subst hB1
              subst hB3
              have hji : (j : Int) < (n1 : Int) := by omega
              have fz := oj.frozenAt j
              obtain ⟨zz, hcz⟩ : ∃ z, wr.cell? ⟨ga, j, none⟩ = some z := ⟨_, oj.byteAt hlenj.symm j (by rw [hlenj]; omega)⟩
              have op := oj.putB (hlenj.symm) j c1
              rw [repl_set Y _ j (by have := HN1.out; omega), HB1.out] at op
              have ks := kp1_set (w := wr) (F := fun k => (Value.slice (some ⟨ga, 0, none⟩) n1 na).ownBlock = some k) rfl j (.int .u8 (100 + (i : Int)))
              obtain ⟨W, hW⟩ : ∃ W, wr.setCell ⟨ga, j, none⟩ (.int .u8 (100 + (i : Int))) = W := ⟨_, rfl⟩
              rw [hW] at op ks
              have rS := run_toStr (P := Tryd.prog) (W.alloc (.cells #[.int .u8 (100 + (i : Int))] 5)) Tryd.underlying22 Tryd.underlying5 Tryd.underlying9 (RdB.one W 5 (100 + (i : Int)) (by omega) (by omega))
              rw [HX1.out] at rS
              have kW := (kj.trans ks (fun _ _ x => x) (fun _ _ x => x)).alloc (.cells #[.int .u8 (100 + (i : Int))] 5)
              have oW := op.keepN ((Kp.refl (fun _ => False) W).alloc (.cells #[.int .u8 (100 + (i : Int))] 5))
              have hsc : bs (List.replicate j c1) ++ bs [c1] = bs (List.replicate (j + 1) c1) := by rw [bs_append, ← List.replicate_succ']
              have HSC := Lib.hid hsc
              have hz1' : (bs (List.replicate j c1)).size ≤ 10000000000 := by rw [bs_size, List.length_replicate]; omega
              have hz2' : (bs [c1]).size ≤ 1 := by rw [bs_size]; simp
              clear hlenj op ks oj hsc
              go_wp2_with (refine conv_op rS rfl ?_)
              go_roundw
              case rel => exact ⟨j + 1, by omega, by go_num, by rw [HSC.out], oW, kW⟩
              case measure => exact meas_up hjt
            · subst hva
              obtain rfl : j = n1 := by omega
              rw [List.drop_eq_nil_of_le (by have := HN1.out; omega), List.append_nil] at oj
              have Cj := Ck.upd i hik (ys := List.replicate j c1) (by rw [HAY.out]; exact kj) (by rw [HAY.out]; exact oj)
              rw [HAY.out] at Cj
              have Wj := Wk.keepB kj (fun m hm hm2 => OwC.neT Wk oa.c (by decide) m hm hm2)
              have kkj : Kp (fun k => w.heap.size ≤ k) w9 wr := kk.trans kj (fun _ _ x => x) (fun m _ hm => oa.fit m hm)
              clear kj oj Ck ca oa kk hga
              obtain ⟨wi, rfl⟩ : ∃ wi : World, wi = wr := ⟨_, rfl⟩
              go_wp2_with fail
              go_loopw [16, 18] (fun sv jv wr => OwnIn2 i j c1 c2 (fun k => w.heap.size ≤ k) (.slice (some ⟨g, 0, none⟩) 21 cap) u14 ks ((List.range i).map fun m => Value.string (bs (mkS m (L m)))) wi sv jv wr) (fun _ jv _ => 64 - (intOf jv).toNat)
              case atStart => exact ⟨0, _, by omega, rfl, by simp, by simpa using Cj, Wj, Kp.refl _ _⟩
              case round =>
                obtain ⟨jj, u, hjj, rfl, rfl, Cu, Wu, ku⟩ := hrel
                have hiks : i < (ks.set i (u, List.replicate j c1 ++ List.replicate jj c2)).length := by rw [List.length_set]; exact hik
                have hgi : (ks.set i (u, List.replicate j c1 ++ List.replicate jj c2))[i] = (u, List.replicate j c1 ++ List.replicate jj c2) := by simp
                have cu := Cu.cellAt i hiks
                have ou := Cu.each i hiks
                rw [hgi] at cu ou
                simp only at cu ou
                have hug : ∀ k, u.ownBlock = some k → k ≠ g := fun k hk e => Cu.out i hiks g rfl (by rw [hgi]; rw [← e]; exact hk)
                have hgl := Cu.row.lt g rfl
                have hzu := ku.size
                by_cases hjt : jj < 64
                · obtain ⟨Bu, nu, hvu, hcu⟩ := ou.readsB.form
                  have hZl : (List.replicate j c1 ++ List.replicate jj c2).length = j + jj := by simp
                  rw [hZl] at hvu hcu
                  subst hvu
                  have fz := Cu.row.frozenAt' i
                  have hji : (jj : Int) < 64 := by omega
                  obtain ⟨Wl, hWl⟩ : ∃ Wl, wr.alloc (.cells #[.int .u8 (200 + (i : Int))] 5) = Wl := ⟨_, rfl⟩
                  have kl : KpN wr Wl := by rw [← hWl]; exact (Kp.refl _ _).alloc _
                  have rl := RdB.one wr 5 (200 + (i : Int)) (by omega) (by omega)
                  rw [hWl, HX2.out] at rl
                  obtain ⟨u', W2, r2, o2, k2, hat⟩ := run_appB (P := Tryd.prog) (ty := 22) Wl Tryd.underlying22 u8info (ou.keepN kl) rl (by simp; omega)
                  have hZ2 : (List.replicate j c1 ++ List.replicate jj c2 ++ [c2]).length = j + jj + 1 := by simp; omega
                  obtain ⟨Bu2, nu2, hvu2, hcu2⟩ := o2.readsB.form
                  rw [hZ2] at hvu2
                  subst hvu2
                  have hzl := kl.size
                  have hz2l := k2.size
                  have o2' := o2.wide (G := fun k => w.heap.size ≤ k) (fun k _ hk => by rcases hk with hk | hk; exact hk; have := hk.1; have := kkj.size; have := k9s.size; omega)
                  have Cp := (Cu.keepN kl).put i hiks (G := fun k => w.heap.size ≤ k) (by rw [hgi]; exact k2) o2' (by
                    rw [hgi]
                    rcases hat with hat | hat
                    · exact .inl hat
                    · exact .inr (fun k hk => by rw [hat] at hk; injection hk with hk; omega)) (fun _ x => x)
                  rw [List.set_set, List.append_assoc, ← List.replicate_succ'] at Cp
                  have cW2 : W2.cell? ⟨g, i, none⟩ = some (.slice Bu (j + jj) nu) := (k2.cell (p := ⟨g, i, none⟩) (Nat.lt_of_lt_of_le hgl hzl) (fun e => hug g e rfl)).trans ((kl.cell (p := ⟨g, i, none⟩) hgl (fun x => x)).trans cu)
                  have fW2 : W2.frozen? ⟨g, i, none⟩ = false := (k2.frozen (p := ⟨g, i, none⟩) (Nat.lt_of_lt_of_le hgl hzl) (fun e => hug g e rfl)).trans ((kl.frozen (p := ⟨g, i, none⟩) hgl (fun x => x)).trans fz)
                  have ks2 := kp1_set (w := W2) (F := fun k => k = g) rfl i (.slice Bu2 (j + jj + 1) nu2)
                  have Wp := ((Wu.keepN kl).keepB k2 (fun m hm hm2 => OwC.neT Wu ou.c (by decide) m hm hm2)).keepB ks2 (fun m hm e => OwC.neT Wu Cu.row (by decide) m hm (by rw [e]; rfl))
                  obtain ⟨W3, hW3⟩ : ∃ W3, W2.setCell ⟨g, i, none⟩ (.slice Bu2 (j + jj + 1) nu2) = W3 := ⟨_, rfl⟩
                  rw [hW3] at Cp Wp ks2
                  have k3 : Kp (fun k => w.heap.size ≤ k) wi W3 := ((ku.thenN kl).trans k2 (fun _ _ x => x) (fun m _ hm => ou.fit m hm)).trans ks2 (fun _ _ x => x) (fun m _ hm => by subst hm; exact hg)
                  have rS := run_toStr (P := Tryd.prog) (W3.alloc (.cells #[.int .u8 (200 + (i : Int))] 5)) Tryd.underlying22 Tryd.underlying5 Tryd.underlying9 (RdB.one W3 5 (200 + (i : Int)) (by omega) (by omega))
                  rw [HX2.out] at rS
                  have k4 := k3.alloc (.cells #[.int .u8 (200 + (i : Int))] 5)
                  have Cq := Cp.keepN ((Kp.refl (fun _ => False) W3).alloc (.cells #[.int .u8 (200 + (i : Int))] 5))
                  have Wq := Wp.keepN ((Kp.refl (fun _ => False) W3).alloc (.cells #[.int .u8 (200 + (i : Int))] 5))
                  have hsc : bs (List.replicate j c1 ++ List.replicate jj c2) ++ bs [c2] = bs (List.replicate j c1 ++ List.replicate (jj + 1) c2) := by rw [bs_append, List.append_assoc, ← List.replicate_succ']
                  have HSC := Lib.hid hsc
                  have hz1' : (bs (List.replicate j c1 ++ List.replicate jj c2)).size ≤ 20000000000 := by rw [bs_size, hZl]; omega
                  have hz2' : (bs [c2]).size ≤ 1 := by rw [bs_size]; simp
                  clear hsc hZl hZ2 hcu2 hgi o2 o2' k2 hat Cp Wp ks2 k3 rl kl Cu Wu ou hcu
                  go_wp2_with (first | refine app_op r2 rfl rfl ?_ | refine conv_op rS rfl ?_)
                  go_roundw
                  case rel => exact ⟨jj + 1, _, by omega, by go_num, by rw [HSC.out], Cq, Wq, k4⟩
                  case measure => exact meas_up hjt
                · have h64 : jj = 64 := by omega
                  have hjge : ¬ (jj : Int) < 64 := by omega
                  have hZ : List.replicate j c1 ++ List.replicate jj c2 = mkS i (L i) := by rw [mkS, HC1.out, HC2.out, ← HYL.out, HN1.out, h64]
                  rw [hZ] at Cu
                  obtain ⟨S, hS⟩ : ∃ S, bs (List.replicate j c1 ++ List.replicate jj c2) = S := ⟨_, rfl⟩
                  have hSm : S = bs (mkS i (L i)) := by rw [← hS, hZ]
                  have HSM := Lib.hid hSm
                  obtain ⟨Wl, hWl⟩ : ∃ Wl, wr.alloc (.cells #[.string S] 9) = Wl := ⟨_, rfl⟩
                  have kl : KpN wr Wl := by rw [← hWl]; exact (Kp.refl _ _).alloc _
                  have hr : RdC Wl 1 (.slice (some ⟨wr.heap.size, 0, none⟩) 1 1) 1 [.string S] := by
                    rw [← hWl]
                    exact (OwC.lit wr 9 1 1 #[.string S] (by simp [maxLen]) rfl).reads
                  obtain ⟨wv', W2, r3, oW, kW, -⟩ := run_app (P := Tryd.prog) (t := 63) (ty := 63) Wl Tryd.underlying63 strinfo rfl (by omega) (Wu.keepN kl) hr (by intro x hx; simp at hx; subst hx; rfl) (by omega) (by omega)
                  have hzl := kl.size
                  have hzw := kW.size
                  have Cf := (Cu.keepN kl).keepB kW (fun m hm hm2 => OwC.neT Wu Cu.row (by decide) m hm2 hm) (fun q hq m hm hm2 => OwC.neT Wu (Cu.each q hq).c (by decide) m hm2 hm)
                  have hzk := kkj.size
                  have hz9 := k9s.size
                  have Wf := oW.wide (G := fun k => w.heap.size ≤ k) (fun m _ hm => by rcases hm with hm | hm; exact hm; have := hm.1; omega)
                  have hws : (List.range i).map (fun m => Value.string (bs (mkS m (L m)))) ++ [Value.string S] = (List.range (i + 1)).map (fun m => Value.string (bs (mkS m (L m)))) := by rw [List.range_succ, List.map_append, hSm]; rfl
                  rw [hws] at Wf
                  have kf : Kp (fun k => w.heap.size ≤ k) w9 W2 := ((kkj.trans ku (fun _ _ x => x) (fun _ _ x => x)).thenN kl).trans kW (fun _ _ x => x) (fun m _ hm => Wu.fit m hm)
                  have hdone : ∀ m (_ : m < (ks.set i (u, mkS i (L i))).length), m < i + 1 → (ks.set i (u, mkS i (L i)))[m].2 = mkS m (L m) := fun m hm hmi => by
                    rw [List.getElem_set]
                    split
                    · rename_i e; subst e; rfl
                    · exact HD.out m (by simpa using hm) (by omega)
                  have hrest : ∀ m (_ : m < (ks.set i (u, mkS i (L i))).length), i + 1 ≤ m → (ks.set i (u, mkS i (L i)))[m].2.length = L m := fun m hm hmi => by
                    rw [List.getElem_set]
                    split
                    · omega
                    · exact HR.out m (by simpa using hm) (by omega)
                  have HDN := Lib.hid hdone
                  have HRS := Lib.hid hrest
                  have H64 := Lib.hid h64
                  clear hdone hrest hws hZ hSm hr oW kW h64 hgi Cu Wu ou cu ku kkj kl
                  go_wp2_with (refine app_op r3 rfl rfl ?_)
                  go_roundw
                  case rel => exact ⟨i + 1, ks.set i (u, mkS i (L i)), by omega, by go_num, by rw [List.length_set]; exact HKL.out, Cf, HDN.out, HRS.out, Wf, kf⟩
                  case measure => exact meas_up hlt
        · have hi21 : 21 = i := by omega
          subst hi21
          obtain ⟨gw, cw, hwv, -, hcw⟩ := Wk.form (by omega)
          subst hwv
          have k0r : KpN w wr := k9s.fresh kk (fun i hi => hi)
          obtain ⟨wz, rfl⟩ : ∃ wz : World, wz = wr := ⟨_, rfl⟩
          clear kk
          go_wp2_with fail
          go_loopw [19] (fun jv wr => ∃ j : Nat, j ≤ 21 ∧ jv = .int .i64 j ∧ KpN wz wr) (fun jv _ => 21 - (intOf jv).toNat)
          case atStart => exact ⟨0, by omega, rfl, Kp.refl _ _⟩
          case round =>
            obtain ⟨j, hj, rfl, kj⟩ := hrel
            by_cases hjt : j < 21
            · have hjk : j < ks.length := by have := HKL.out; omega
              have hji : (j : Int) < 21 := by omega
              have Cj := Ck.keepN kj
              have Wj := Wk.keepN kj
              have cj := Cj.cellAt j hjk
              have oj := (Cj.each j hjk).readsB
              rw [HD.out j hjk hjt] at oj
              have wj : wr.cell? ⟨gw, j, none⟩ = some (.string (bs (mkS j (L j)))) := by
                rw [OwC.cellAt Wj j hjt]
                simp [hjt]
              have hgl := Cj.row.lt g rfl
              have hgwl := Wj.lt gw rfl
              generalize mkS j (L j) = M at *
              obtain ⟨aj, haj⟩ : ∃ a, ks[j].1 = a := ⟨_, rfl⟩
              rw [haj] at cj oj
              clear haj Cj Wj
              go_wp2_with fail
              refine rg_begin 10 (fun _ => False) (by kernel_rfl) (fun w7 d7 => ?_)
              refine rg_take 0 (d := (some 149)) (v := .slice (some ⟨g, 0, none⟩) 21 cap) (by decide) rfl rfl (by kernel_rfl) (by kernel_rfl) (by kernel_rfl) (fun _ _ _ h => h) rfl (fun W => rfl) ?_
              conv => arg 8; simp only [Act.put, List.setIfInBounds_toArray, List.set_cons_zero, List.set_cons_succ]
              refine rg_take 1 (d := (some 150)) (v := .int .i64 j) (by decide) rfl rfl (by kernel_rfl) (by kernel_rfl) (by kernel_rfl) (fun _ _ _ h => h) rfl (fun W => rfl) ?_
              conv => arg 8; simp only [Act.put, List.setIfInBounds_toArray, List.set_cons_zero, List.set_cons_succ]
              refine rg_take 2 (d := (some 151)) (v := .pointer (some ⟨g, j, none⟩)) (by decide) rfl rfl (by kernel_rfl) (by kernel_rfl) (by kernel_rfl) (fun _ _ _ h => h) rfl (fun W => by go_simp) ?_
              conv => arg 8; simp only [Act.put, List.setIfInBounds_toArray, List.set_cons_zero, List.set_cons_succ]
              refine rg_read 3 (d := (some 152)) (v := aj) (by decide) (by kernel_rfl) (by kernel_rfl) rfl rfl (by kernel_rfl) (by kernel_rfl) (by kernel_rfl) (fun _ _ _ h => h) rfl (fun W hW => by have hc := (hW.cell (p := ⟨g, j, none⟩) (Nat.lt_of_lt_of_le hgl d7.size) (fun x => x)).trans ((d7.cell hgl (fun x => x)).trans cj); go_simp) ?_
              conv => arg 8; simp only [Act.put, List.setIfInBounds_toArray, List.set_cons_zero, List.set_cons_succ]
              refine rg_conv 4 (d := (some 153)) (oj.keepN d7) (fun _ _ x => x) Tryd.underlying22 Tryd.underlying5 Tryd.underlying9 (by decide) (by kernel_rfl) (by kernel_rfl) rfl rfl (by kernel_rfl) (by kernel_rfl) (by kernel_rfl) (fun _ _ _ h => h) rfl rfl ?_
              conv => arg 8; simp only [Act.put, List.setIfInBounds_toArray, List.set_cons_zero, List.set_cons_succ]
              refine rg_take 5 (d := (some 154)) (v := .slice (some ⟨gw, 0, none⟩) 21 cw) (by decide) rfl rfl (by kernel_rfl) (by kernel_rfl) (by kernel_rfl) (fun _ _ _ h => h) rfl (fun W => rfl) ?_
              conv => arg 8; simp only [Act.put, List.setIfInBounds_toArray, List.set_cons_zero, List.set_cons_succ]
              refine rg_take 6 (d := (some 155)) (v := .int .i64 j) (by decide) rfl rfl (by kernel_rfl) (by kernel_rfl) (by kernel_rfl) (fun _ _ _ h => h) rfl (fun W => rfl) ?_
              conv => arg 8; simp only [Act.put, List.setIfInBounds_toArray, List.set_cons_zero, List.set_cons_succ]
              refine rg_take 7 (d := (some 156)) (v := .pointer (some ⟨gw, j, none⟩)) (by decide) rfl rfl (by kernel_rfl) (by kernel_rfl) (by kernel_rfl) (fun _ _ _ h => h) rfl (fun W => by go_simp) ?_
              conv => arg 8; simp only [Act.put, List.setIfInBounds_toArray, List.set_cons_zero, List.set_cons_succ]
              refine rg_read 8 (d := (some 157)) (v := .string (bs M)) (by decide) (by kernel_rfl) (by kernel_rfl) rfl rfl (by kernel_rfl) (by kernel_rfl) (by kernel_rfl) (fun _ _ _ h => h) rfl (fun W hW => by have hc := (hW.cell (p := ⟨gw, j, none⟩) (Nat.lt_of_lt_of_le hgwl d7.size) (fun x => x)).trans ((d7.cell hgwl (fun x => x)).trans wj); go_simp) ?_
              conv => arg 8; simp only [Act.put, List.setIfInBounds_toArray, List.set_cons_zero, List.set_cons_succ]
              refine rg_take 9 (d := (some 158)) (v := .bool false) (by decide) rfl rfl (by kernel_rfl) (by kernel_rfl) (by kernel_rfl) (fun _ _ _ h => h) rfl (fun W => by go_simp) ?_
              conv => arg 8; simp only [Act.put, List.setIfInBounds_toArray, List.set_cons_zero, List.set_cons_succ]
              refine rg_done (by kernel_rfl) ?_
              go_wp2
              go_roundw
              case rel => exact ⟨j + 1, by omega, by go_num, kj.thenN d7⟩
              case measure => exact meas_up hjt
            · have k0f : KpN w wr := k0r.thenN kj
              clear Ck Wk
              go_wp2_with fail
              refine rg_begin 8 (fun _ => False) (by kernel_rfl) (fun w7 d7 => ?_)
              have k07 := k0f.thenN d7
              refine rg_take 0 (d := (some 159)) (v := .slice A xs.length c) (by decide) rfl rfl (by kernel_rfl) (by kernel_rfl) (by kernel_rfl) (fun _ _ _ h => h) rfl (fun W => rfl) ?_
              conv => arg 8; simp only [Act.put, List.setIfInBounds_toArray, List.set_cons_zero, List.set_cons_succ]
              refine rg_take 3 (d := (some 162)) (v := .slice A xs.length c) (by decide) rfl rfl (by kernel_rfl) (by kernel_rfl) (by kernel_rfl) (fun _ _ _ h => h) rfl (fun W => rfl) ?_
              conv => arg 8; simp only [Act.put, List.setIfInBounds_toArray, List.set_cons_zero, List.set_cons_succ]
              refine rg_call 1 (d := (some 160)) (by kernel_rfl) (sealed_c (h.keepN k07) (ht.keepN k07) (by omega)) rfl rfl (by kernel_rfl) rfl rfl ?_
              rintro e w8 ⟨a8, rfl, p8, k8⟩
              refine ⟨_, rfl, k8, ?_⟩
              conv => arg 8; simp only [Act.put, List.setIfInBounds_toArray, List.set_cons_zero, List.set_cons_succ]
              refine rg_conv 2 (d := (some 161)) (p8.readsB) (fun _ _ x => x) Tryd.underlying22 Tryd.underlying5 Tryd.underlying9 (by decide) (by kernel_rfl) (by kernel_rfl) rfl rfl (by kernel_rfl) (by kernel_rfl) (by kernel_rfl) (fun _ _ _ h => h) rfl rfl ?_
              conv => arg 8; simp only [Act.put, List.setIfInBounds_toArray, List.set_cons_zero, List.set_cons_succ]
              refine rg_call 4 (d := (some 163)) (by kernel_rfl) (refSealed_c (h.keepN (k07.thenN k8)) (by omega)) rfl rfl (by kernel_rfl) rfl rfl ?_
              rintro e w9 ⟨a9, rfl, p9, k9⟩
              refine ⟨_, rfl, k9, ?_⟩
              conv => arg 8; simp only [Act.put, List.setIfInBounds_toArray, List.set_cons_zero, List.set_cons_succ]
              refine rg_conv1 5 (d := (some 164)) (p9.readsB) Tryd.underlying22 Tryd.underlying5 Tryd.underlying9 rfl rfl (by kernel_rfl) rfl rfl ?_
              conv => arg 8; simp only [Act.put, List.setIfInBounds_toArray, List.set_cons_zero, List.set_cons_succ]
              refine rg_take 6 (d := (some 165)) (v := .bool true) (by decide) rfl rfl (by kernel_rfl) (by kernel_rfl) (by kernel_rfl) (fun _ _ _ h => h) rfl (fun W => by go_simp) ?_
              conv => arg 8; simp only [Act.put, List.setIfInBounds_toArray, List.set_cons_zero, List.set_cons_succ]
              refine rg_take 7 (d := (some 10)) (v := .bool true) (by decide) rfl rfl (by kernel_rfl) (by kernel_rfl) (by kernel_rfl) (fun _ _ _ h => h) rfl (fun W => rfl) ?_
              conv => arg 8; simp only [Act.put, List.setIfInBounds_toArray, List.set_cons_zero, List.set_cons_succ]
              refine rg_done (by kernel_rfl) ?_
              go_wp2
              go_ret
              exact ⟨rfl, (k07.thenN k8).thenN k9⟩
end Go.Proofs.YtjhndppmpldfbaaDoor
