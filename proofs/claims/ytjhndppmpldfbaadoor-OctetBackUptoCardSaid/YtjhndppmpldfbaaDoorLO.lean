/- OctetBack: what the calls do. -/
import Derived.Test.YtjhndppmpldfbaaDoorOR2
import Derived.Test.YtjhndppmpldfbaaDoorOK
import Derived.Test.YtjhndppmpldfbaaDoorO4
import Derived.Test.YtjhndppmpldfbaaDoorP9
import Derived.Test.YtjhndppmpldfbaaDoorRD
import Derived.Deep.DeepCutAuto
import Derived.Deep.CutBlock
namespace Go.Proofs.YtjhndppmpldfbaaDoor
open Go Go.RowKit Go.ChangeShapes Go.WideShapes Go.ChangeAt

def itemRd : Rd 55 (Bool × Int × List UInt8 × Unit) :=
  structRd _ Tryd.underlying55 (consFds (boolRd 4 Tryd.underlying4 (by kernel_rfl)) rfl (consFds (intRd .u64 31 Tryd.underlying31 (by kernel_rfl)) rfl (consFds (bytesRd 22 Tryd.underlying22 (by kernel_rfl)) rfl (nilFds _)))) (by kernel_rfl)
def itemsRd : Rd 52 (List (Bool × Int × List UInt8 × Unit)) := sliceRd itemRd _ Tryd.underlying52 (by kernel_rfl)
/-- what was laid: their cells -/
def RdIts (w : World) (v : Value) (l : List It) : Prop := ∃ A c, v = .slice A l.length c ∧ l.length ≤ c ∧ ∀ j (h : j < l.length), ∃ ad sv, A = some ad ∧ w.cell? (ad.add (j * 3)) = some (.bool l[j].1) ∧
  w.cell? ⟨(ad.add (j * 3)).block, (ad.add (j * 3)).off + 1, none⟩ = some (.int .u64 (l[j].2.1 : Int)) ∧ w.cell? ⟨(ad.add (j * 3)).block, (ad.add (j * 3)).off + 2, none⟩ = some sv ∧ RdB w sv l[j].2.2 ∧ l[j].2.1 < 18446744073709551616
theorem RdIts.keepN {w w' : World} {v : Value} {l : List It} (h : RdIts w v l) (k : KpN w w') : RdIts w' v l := by
  obtain ⟨A, c, rfl, hc, hr⟩ := h
  refine ⟨A, c, rfl, hc, fun j hj => ?_⟩
  obtain ⟨ad, sv, rfl, c0, c1, c2, hb, hn⟩ := hr j hj
  have kc : ∀ i u, w.cell? i = some u → w'.cell? i = some u := fun i u hu => by
    rw [k.cell (World.block_lt_of_cell? w _ hu) (fun x => x)]; exact hu
  exact ⟨ad, sv, rfl, kc _ _ c0, kc _ _ c1, kc _ _ c2, hb.keepN k, hn⟩
theorem RdIts.row {w : World} {A : Option Addr} {n c : Nat} {l : List It} (h : RdIts w (.slice A n c) l) (j : Nat) (hj : j < l.length) : ∃ ad sv, A = some ad ∧ w.cell? (ad.add (j * 3)) = some (.bool l[j].1) ∧
    w.cell? ⟨(ad.add (j * 3)).block, (ad.add (j * 3)).off + 1, none⟩ = some (.int .u64 (l[j].2.1 : Int)) ∧ w.cell? ⟨(ad.add (j * 3)).block, (ad.add (j * 3)).off + 2, none⟩ = some sv ∧ RdB w sv l[j].2.2 ∧ l[j].2.1 < 18446744073709551616 := by
  obtain ⟨A', c', hv, _, hr⟩ := h
  injection hv with h1 h2 h3
  subst h1
  exact hr j hj
theorem open_items {H : Type} {enc : TypeId × Value → H} {W : World} {base : Nat} {sp : Nat → Bool} {held : Bool} {a : Option Addr} {len cap : Nat} {d : DataW H} {p : List MemPlace} (h0 : DataW.Trod enc Tryd.prog W base sp held 52 (.slice a len cap) d p) :
    ∃ l : List It, RdIts W (.slice a len cap) l ∧ (l.map fun i => i.2.2.length + 1).sum ≤ Rows.uptoBulk d ∧ l.length ≤ Rows.uptoBulk d ∧ ∀ i ∈ l, i.2.1 < 18446744073709551616 := by
  obtain ⟨raw, ⟨v, hv, hs⟩, hb⟩ := itemsRd.open_ h0
  obtain rfl : Value.slice a len cap = v := by simpa [Value.cells] using hv
  obtain ⟨A, c, hv2, hc, hr⟩ := hs
  injection hv2 with h1 h2 h3
  subst h1 h3
  have hsz : ∀ x : Bool × Int × List UInt8 × Unit, itemRd.size x = x.2.2.1.length + 3 := fun x => by
    show 1 + (1 + (x.2.2.1.length + 1 + 0)) = _
    omega
  have hbk : itemsRd.size raw = (raw.map itemRd.size).sum + 1 := rfl
  rw [hbk] at hb
  have hsum : ∀ r : List (Bool × Int × List UInt8 × Unit), ((r.map fun x => ((x.1, x.2.1.toNat, x.2.2.1) : It)).map fun i => i.2.2.length + 1).sum + r.length ≤ (r.map itemRd.size).sum := by
    intro r
    induction r with
    | nil => simp
    | cons x r ih =>
      simp only [List.map_cons, List.sum_cons, List.length_cons, hsz] at ih ⊢
      omega
  have hsr := hsum raw
  have hrow : ∀ j (hj : j < raw.length), ∃ ad sv, a = some ad ∧ W.cell? (ad.add (j * 3)) = some (.bool raw[j].1) ∧
      W.cell? ⟨(ad.add (j * 3)).block, (ad.add (j * 3)).off + 1, none⟩ = some (.int .u64 ((raw[j].2.1.toNat : Nat) : Int)) ∧ W.cell? ⟨(ad.add (j * 3)).block, (ad.add (j * 3)).off + 2, none⟩ = some sv ∧ RdB W sv raw[j].2.2.1 ∧ raw[j].2.1.toNat < 18446744073709551616 := fun j hj => by
    obtain ⟨ad, cs, ha, hn, hrow, c1, c2, rfl, hc1, c3, c4, rfl, ⟨hc3, hw⟩, c5, c6, rfl, ⟨sv, hc5, hsv⟩, hc6⟩ := hr j hj
    obtain rfl := hc1
    obtain rfl := hc3
    obtain rfl := hc5
    have h6 := u64_wf hw
    refine ⟨ad, sv, ha, hrow.c0, ?_, hrow.fld 1 rfl, hsv, by omega⟩
    rw [Int.toNat_of_nonneg h6.1]
    exact hrow.fld 0 rfl
  refine ⟨raw.map fun x => (x.1, x.2.1.toNat, x.2.2.1), ⟨a, cap, by rw [h2]; simp, by simpa using hc, fun j hj => ?_⟩, Nat.le_trans (Nat.le_add_right _ raw.length) (Nat.le_trans hsr (by omega)), by simp; omega, fun i hi => ?_⟩
  · have := hrow j (by simpa using hj)
    simpa using this
  · obtain ⟨x, hx, rfl⟩ := List.mem_map.1 hi
    obtain ⟨j, hj, rfl⟩ := List.mem_iff_getElem.1 hx
    obtain ⟨_, _, _, _, _, _, _, h⟩ := hrow j hj
    exact h
/-- the loop of 'laid' after j rounds -/
def LaidRel (l : List It) (w : World) (bv i : Value) (wr : World) : Prop :=
  ∃ j : Nat, j ≤ l.length ∧ i = .int .i64 j ∧ OwB wr 5 (fun k => w.heap.size ≤ k) bv (laidS (l.take j)) ∧ KpN w wr
set_option maxHeartbeats 1600000 in
theorem laid_c {v : Value} {l : List It} {w : World} (h : RdIts w v l) (hb : (laidS l).length ≤ 1000000000) (hl : l.length ≤ 1000000000) (hy : ∀ i ∈ l, i.2.2.length ≤ 1000000000) :
    Calls Tryd.prog 41 #[v] w (GotB 5 w (laidS l)) := by
  obtain ⟨A, c, rfl, hc, hrows⟩ := id h
  clear hrows
  go_enter Tryd.func41, Tryd.ntmps41
  go_wp2
  go_loopw [3, 4] (fun bv i wr => LaidRel l w bv i wr) (fun _ i _ => l.length - (intOf i).toNat)
  case atStart => exact ⟨0, by omega, rfl, OwB.nil _ _ _, Kp.refl _ _⟩
  case round =>
    obtain ⟨j, hj, rfl, oo, kk⟩ := hrel
    by_cases hlt : j < l.length
    · obtain ⟨ad, sv, rfl, c0, c1, c2, rdy, hn64⟩ := (h.keepN kk).row j hlt
      have hlj := laid_le l j
      have hlj1 := laid_le l (j + 1)
      have hsucc := laid_succ l j hlt
      have hyj := hy l[j] (List.getElem_mem hlt)
      obtain ⟨⟨b, n, ys⟩, ho⟩ : ∃ o, l[j] = o := ⟨_, rfl⟩
      rw [ho] at c0 c1 rdy hn64 hsucc hyj
      simp only at c0 c1 rdy hn64 hyj
      have HS := Lib.hid hsucc
      clear hsucc ho
      rcases b with _ | _
      · go_wp2_with fail
        refine (number_c (RdB.nil _) hn64 (by simp)).mono ?_
        rintro e w2 ⟨v2, rfl, o2, k2⟩
        rw [List.nil_append] at o2
        have hlen : (laidS (l.take j)).length + (sd n).length ≤ 1000000000 := by
          have h5 := HS.out
          have h6 := congrArg List.length h5
          simp [itB] at h6 hlj1
          omega
        obtain ⟨v3, w3, r3, o3, k3, _⟩ := run_appB (P := Tryd.prog) (ty := 22) w2 Tryd.underlying22 u8info (oo.keepN k2) o2.readsB (by omega)
        have hz2 := k2.size
        have hzk := kk.size
        have k03 : KpN w w3 := (kk.thenN k2).fresh k3 (fun i e => oo.fit i e)
        have o3' := o3.wide (G := fun k => w.heap.size ≤ k) (fun k _ hk => by rcases hk with hk | hk; exact hk; have := hk.1; omega)
        clear o3 k3
        go_wp2_with (refine app_op r3 rfl rfl ?_)
        go_roundw
        case rel => exact ⟨j + 1, by omega, by go_num, by rw [HS.out]; exact o3', k03⟩
        case measure => exact meas_up hlt
      · obtain ⟨B, c2', rfl, hc2⟩ := rdy.form
        go_wp2_with fail
        refine (bytes_c (RdB.nil _) rdy (by simp; omega)).mono ?_
        rintro e w2 ⟨v2, rfl, o2, k2⟩
        rw [List.nil_append] at o2
        have hlen : (laidS (l.take j)).length + (lb ys).length ≤ 1000000000 := by
          have h5 := HS.out
          have h6 := congrArg List.length h5
          simp [itB] at h6 hlj1
          omega
        obtain ⟨v3, w3, r3, o3, k3, _⟩ := run_appB (P := Tryd.prog) (ty := 22) w2 Tryd.underlying22 u8info (oo.keepN k2) o2.readsB (by omega)
        have hz2 := k2.size
        have hzk := kk.size
        have k03 : KpN w w3 := (kk.thenN k2).fresh k3 (fun i e => oo.fit i e)
        have o3' := o3.wide (G := fun k => w.heap.size ≤ k) (fun k _ hk => by rcases hk with hk | hk; exact hk; have := hk.1; omega)
        clear o3 k3
        go_wp2_with (refine app_op r3 rfl rfl ?_)
        go_roundw
        case rel => exact ⟨j + 1, by omega, by go_num, by rw [HS.out]; exact o3', k03⟩
        case measure => exact meas_up hlt
    · obtain rfl : j = l.length := by omega
      rw [List.take_length] at oo
      go_wp2
      go_ret
      exact got_of (oo.wide (fun k hk h => ⟨h, hk⟩)) kk
def Back1 (l : List It) (F : Nat → Prop) (g : Nat) (u : Value) (w1 : World) (i : Value) (wr : World) : Prop :=
  ∃ j : Nat, j ≤ l.length ∧ i = .int .i64 j ∧ RdrC wr F g u (laidS l) (laidS (l.take j)).length 0 ∧ Kp F w1 wr
def Back2 (l : List It) (F F' : Nat → Prop) (g g' : Nat) (u u' : Value) (w1 : World) (i : Value) (wr : World) : Prop :=
  ∃ (j a : Nat) (f : Int), j ≤ l.length ∧ i = .int .i64 j ∧ RdrC wr F g u (laidS l ++ [0]) (laidS (l.take j)).length 0 ∧ RdrC wr F' g' u' (laidS l).dropLast a f ∧ CutOk l j a f ∧ Kp (fun i => F i ∨ F' i) w1 wr
set_option maxRecDepth 100000 in
set_option maxHeartbeats 3200000 in
theorem back_walk {v : Value} {l : List It} {w : World} (h : RdIts w v l) (ht : TabOk w) (hb : (laidS l).length ≤ 1000000000) (hl : l.length ≤ 1000000000) (hy : ∀ i ∈ l, i.2.2.length ≤ 1000000000) :
    Calls Tryd.prog 13 #[v] w fun e w' => e = .returned (.bool true) ∧ KpN w w' := by
  obtain ⟨A, c, rfl, hc, hrows⟩ := id h
  clear hrows
  go_enter Tryd.func13, Tryd.ntmps13
  go_wp2_with fail
  refine (knows_c ht).mono ?_
  rintro e w0 ⟨rfl, k0⟩
  go_wp2_with fail
  refine (laid_c (h.keepN k0) hb hl hy).mono ?_
  rintro e w1 ⟨bv, rfl, o1, k1⟩
  have k01 := k0.thenN k1
  go_wp2_with fail
  refine (new_c o1.readsB (by omega)).mono ?_
  rintro e w2 ⟨g, u, rfl, r2, k2⟩
  have k02 := k01.thenN k2
  have hz0 := k0.size
  have hz1 := k1.size
  have hz2 := k2.size
  have o2 := o1.keepN k2
  clear o1 k0 k1 k2 k01
  go_upto_block 0 with fail
  go_cut [5] (fun i wx => Back1 l (Iv w1.heap.size w2.heap.size) g u w2 (.int .i64 l.length) wx)
  case first =>
    go_wp2_with fail
    go_loopw [5] (fun i wr => Back1 l (Iv w1.heap.size w2.heap.size) g u w2 i wr) (fun i _ => l.length - (intOf i).toNat)
    case atStart => exact ⟨0, by omega, rfl, r2, Kp.refl _ _⟩
    case round =>
      obtain ⟨j, hj, rfl, rr, kk⟩ := hrel
      by_cases hlt : j < l.length
      · have k0r : KpN w wr := k02.fresh kk (fun i h1 => by omega)
        obtain ⟨ad, sv, rfl, c0, c1, c2, rdy, hn64⟩ := h.row j hlt
        have hstep := full_step l [] j hlt hn64 (by have := hy l[j] (List.getElem_mem hlt); omega)
        rw [List.append_nil] at hstep
        have hyj := hy l[j] (List.getElem_mem hlt)
        have hzr := kk.size
        obtain ⟨⟨b, n, ys⟩, ho⟩ : ∃ o, l[j] = o := ⟨_, rfl⟩
        rw [ho] at c0 c1 rdy hn64 hstep hyj
        simp only at c0 c1 rdy hn64 hstep hyj
        have HS := Lib.hid hstep
        have hca : ∀ i u, w.cell? i = some u → ∀ W, KpN w W → W.cell? i = some u := fun i u hu W hW => by rw [hW.cell (World.block_lt_of_cell? w _ hu) (fun x => x)]; exact hu
        have C1 := Lib.hid (hca _ _ c1)
        have C2 := Lib.hid (hca _ _ c2)
        replace c0 := hca _ _ c0 wr k0r
        clear hstep ho hca c1 c2
        rcases b with _ | _
        · have hC := rdNumber_c (most := n) rr hn64
          clear hC
          go_wp2_with fail
          refine rg_begin 99 (Iv w1.heap.size w2.heap.size) (by kernel_rfl) (fun w5 d5 => ?_)
          have k05 := k0r.thenN d5
          have hC := rdNumber_c (most := n) (rr.keepN d5) hn64
          rw [HS.out.1 (by trivial)] at hC
          refine rg_take 0 (d := (some 42)) (v := .pointer (some ⟨g, 0, none⟩)) (by decide) rfl rfl (by kernel_rfl) (by kernel_rfl) (by kernel_rfl) (fun _ _ _ h => h) rfl (fun W => rfl) ?_
          conv => arg 8; simp only [Act.put, List.setIfInBounds_toArray, List.set_cons_zero, List.set_cons_succ]
          refine rg_take 1 (d := (some 43)) (v := .slice (some ad) l.length c) (by decide) rfl rfl (by kernel_rfl) (by kernel_rfl) (by kernel_rfl) (fun _ _ _ h => h) rfl (fun W => rfl) ?_
          conv => arg 8; simp only [Act.put, List.setIfInBounds_toArray, List.set_cons_zero, List.set_cons_succ]
          refine rg_take 2 (d := (some 44)) (v := .int .i64 j) (by decide) rfl rfl (by kernel_rfl) (by kernel_rfl) (by kernel_rfl) (fun _ _ _ h => h) rfl (fun W => rfl) ?_
          conv => arg 8; simp only [Act.put, List.setIfInBounds_toArray, List.set_cons_zero, List.set_cons_succ]
          refine rg_take 3 (d := (some 45)) (v := .pointer (some (ad.add (j * 3)))) (by decide) rfl rfl (by kernel_rfl) (by kernel_rfl) (by kernel_rfl) (fun _ _ _ h => h) rfl (fun W => by go_simp) ?_
          conv => arg 8; simp only [Act.put, List.setIfInBounds_toArray, List.set_cons_zero, List.set_cons_succ]
          refine rg_take 4 (d := (some 46)) (v := .pointer (some ⟨(ad.add (j * 3)).block, (ad.add (j * 3)).off + 1, none⟩)) (by decide) rfl rfl (by kernel_rfl) (by kernel_rfl) (by kernel_rfl) (fun _ _ _ h => h) rfl (fun W => by go_simp) ?_
          conv => arg 8; simp only [Act.put, List.setIfInBounds_toArray, List.set_cons_zero, List.set_cons_succ]
          refine rg_read 5 (d := (some 47)) (v := .int .u64 n) (by decide) (by kernel_rfl) (by kernel_rfl) rfl rfl (by kernel_rfl) (by kernel_rfl) (by kernel_rfl) (fun _ _ _ h => h) rfl (fun W hW => by have hc := (fun W hW => C1.out W (k05.fresh hW (fun i h1 => by omega))) W hW; go_simp) ?_
          conv => arg 8; simp only [Act.put, List.setIfInBounds_toArray, List.set_cons_zero, List.set_cons_succ]
          refine rg_take 7 (d := (some 49)) (v := .slice (some ad) l.length c) (by decide) rfl rfl (by kernel_rfl) (by kernel_rfl) (by kernel_rfl) (fun _ _ _ h => h) rfl (fun W => rfl) ?_
          conv => arg 8; simp only [Act.put, List.setIfInBounds_toArray, List.set_cons_zero, List.set_cons_succ]
          refine rg_take 8 (d := (some 50)) (v := .int .i64 j) (by decide) rfl rfl (by kernel_rfl) (by kernel_rfl) (by kernel_rfl) (fun _ _ _ h => h) rfl (fun W => rfl) ?_
          conv => arg 8; simp only [Act.put, List.setIfInBounds_toArray, List.set_cons_zero, List.set_cons_succ]
          refine rg_take 9 (d := (some 51)) (v := .pointer (some (ad.add (j * 3)))) (by decide) rfl rfl (by kernel_rfl) (by kernel_rfl) (by kernel_rfl) (fun _ _ _ h => h) rfl (fun W => by go_simp) ?_
          conv => arg 8; simp only [Act.put, List.setIfInBounds_toArray, List.set_cons_zero, List.set_cons_succ]
          refine rg_take 10 (d := (some 52)) (v := .pointer (some ⟨(ad.add (j * 3)).block, (ad.add (j * 3)).off + 1, none⟩)) (by decide) rfl rfl (by kernel_rfl) (by kernel_rfl) (by kernel_rfl) (fun _ _ _ h => h) rfl (fun W => by go_simp) ?_
          conv => arg 8; simp only [Act.put, List.setIfInBounds_toArray, List.set_cons_zero, List.set_cons_succ]
          refine rg_read 11 (d := (some 53)) (v := .int .u64 n) (by decide) (by kernel_rfl) (by kernel_rfl) rfl rfl (by kernel_rfl) (by kernel_rfl) (by kernel_rfl) (fun _ _ _ h => h) rfl (fun W hW => by have hc := (fun W hW => C1.out W (k05.fresh hW (fun i h1 => by omega))) W hW; go_simp) ?_
          conv => arg 8; simp only [Act.put, List.setIfInBounds_toArray, List.set_cons_zero, List.set_cons_succ]
          refine rg_call 6 (d := (some 48)) (by kernel_rfl) (hC) rfl rfl (by kernel_rfl) rfl rfl ?_
          rintro e w6 ⟨rfl, r6, k6⟩
          refine ⟨_, rfl, k6, ?_⟩
          conv => arg 8; simp only [Act.put, List.setIfInBounds_toArray, List.set_cons_zero, List.set_cons_succ]
          refine rg_take 12 (d := (some 54)) (v := .bool false) (by decide) rfl rfl (by kernel_rfl) (by kernel_rfl) (by kernel_rfl) (fun _ _ _ h => h) rfl (fun W => by go_simp) ?_
          conv => arg 8; simp only [Act.put, List.setIfInBounds_toArray, List.set_cons_zero, List.set_cons_succ]
          refine rg_done (by kernel_rfl) ?_
          go_wp2
          go_roundw
          case rel => exact ⟨j + 1, by omega, by go_num, r6, (kk.thenN d5).trans k6 (fun _ _ x => x) (fun _ _ x => x)⟩
          case measure => exact meas_up hlt
        · obtain ⟨B, c2', rfl, hc2⟩ := rdy.form
          go_wp2_with fail
          refine rg_begin 99 (Iv w1.heap.size w2.heap.size) (by kernel_rfl) (fun w5 d5 => ?_)
          have k05 := k0r.thenN d5
          have hz5 := d5.size
          have hC := rdBytes_c (most := (ys.length : Int)) (rr.keepN d5) (by omega) (fun i hi => by have := hi.2; omega)
          rw [HS.out.2 (by trivial)] at hC
          refine rg_take 0 (d := (some 26)) (v := .pointer (some ⟨g, 0, none⟩)) (by decide) rfl rfl (by kernel_rfl) (by kernel_rfl) (by kernel_rfl) (fun _ _ _ h => h) rfl (fun W => rfl) ?_
          conv => arg 8; simp only [Act.put, List.setIfInBounds_toArray, List.set_cons_zero, List.set_cons_succ]
          refine rg_take 1 (d := (some 27)) (v := .slice (some ad) l.length c) (by decide) rfl rfl (by kernel_rfl) (by kernel_rfl) (by kernel_rfl) (fun _ _ _ h => h) rfl (fun W => rfl) ?_
          conv => arg 8; simp only [Act.put, List.setIfInBounds_toArray, List.set_cons_zero, List.set_cons_succ]
          refine rg_take 2 (d := (some 28)) (v := .int .i64 j) (by decide) rfl rfl (by kernel_rfl) (by kernel_rfl) (by kernel_rfl) (fun _ _ _ h => h) rfl (fun W => rfl) ?_
          conv => arg 8; simp only [Act.put, List.setIfInBounds_toArray, List.set_cons_zero, List.set_cons_succ]
          refine rg_take 3 (d := (some 29)) (v := .pointer (some (ad.add (j * 3)))) (by decide) rfl rfl (by kernel_rfl) (by kernel_rfl) (by kernel_rfl) (fun _ _ _ h => h) rfl (fun W => by go_simp) ?_
          conv => arg 8; simp only [Act.put, List.setIfInBounds_toArray, List.set_cons_zero, List.set_cons_succ]
          refine rg_take 4 (d := (some 30)) (v := .pointer (some ⟨(ad.add (j * 3)).block, (ad.add (j * 3)).off + 2, none⟩)) (by decide) rfl rfl (by kernel_rfl) (by kernel_rfl) (by kernel_rfl) (fun _ _ _ h => h) rfl (fun W => by go_simp) ?_
          conv => arg 8; simp only [Act.put, List.setIfInBounds_toArray, List.set_cons_zero, List.set_cons_succ]
          refine rg_read 5 (d := (some 31)) (v := .slice B ys.length c2') (by decide) (by kernel_rfl) (by kernel_rfl) rfl rfl (by kernel_rfl) (by kernel_rfl) (by kernel_rfl) (fun _ _ _ h => h) rfl (fun W hW => by have hc := (fun W hW => C2.out W (k05.fresh hW (fun i h1 => by omega))) W hW; go_simp) ?_
          conv => arg 8; simp only [Act.put, List.setIfInBounds_toArray, List.set_cons_zero, List.set_cons_succ]
          refine rg_take 6 (d := (some 32)) (v := .int .i64 ys.length) (by decide) rfl rfl (by kernel_rfl) (by kernel_rfl) (by kernel_rfl) (fun _ _ _ h => h) rfl (fun W => by go_simp) ?_
          conv => arg 8; simp only [Act.put, List.setIfInBounds_toArray, List.set_cons_zero, List.set_cons_succ]
          refine rg_take 9 (d := (some 35)) (v := .slice (some ad) l.length c) (by decide) rfl rfl (by kernel_rfl) (by kernel_rfl) (by kernel_rfl) (fun _ _ _ h => h) rfl (fun W => rfl) ?_
          conv => arg 8; simp only [Act.put, List.setIfInBounds_toArray, List.set_cons_zero, List.set_cons_succ]
          refine rg_take 10 (d := (some 36)) (v := .int .i64 j) (by decide) rfl rfl (by kernel_rfl) (by kernel_rfl) (by kernel_rfl) (fun _ _ _ h => h) rfl (fun W => rfl) ?_
          conv => arg 8; simp only [Act.put, List.setIfInBounds_toArray, List.set_cons_zero, List.set_cons_succ]
          refine rg_take 11 (d := (some 37)) (v := .pointer (some (ad.add (j * 3)))) (by decide) rfl rfl (by kernel_rfl) (by kernel_rfl) (by kernel_rfl) (fun _ _ _ h => h) rfl (fun W => by go_simp) ?_
          conv => arg 8; simp only [Act.put, List.setIfInBounds_toArray, List.set_cons_zero, List.set_cons_succ]
          refine rg_take 12 (d := (some 38)) (v := .pointer (some ⟨(ad.add (j * 3)).block, (ad.add (j * 3)).off + 2, none⟩)) (by decide) rfl rfl (by kernel_rfl) (by kernel_rfl) (by kernel_rfl) (fun _ _ _ h => h) rfl (fun W => by go_simp) ?_
          conv => arg 8; simp only [Act.put, List.setIfInBounds_toArray, List.set_cons_zero, List.set_cons_succ]
          refine rg_read 13 (d := (some 39)) (v := .slice B ys.length c2') (by decide) (by kernel_rfl) (by kernel_rfl) rfl rfl (by kernel_rfl) (by kernel_rfl) (by kernel_rfl) (fun _ _ _ h => h) rfl (fun W hW => by have hc := (fun W hW => C2.out W (k05.fresh hW (fun i h1 => by omega))) W hW; go_simp) ?_
          conv => arg 8; simp only [Act.put, List.setIfInBounds_toArray, List.set_cons_zero, List.set_cons_succ]
          refine rg_convF 14 (d := (some 40)) (fun W hW => rdy.keepN (k05.fresh hW (fun i h1 => by omega))) Tryd.underlying22 Tryd.underlying5 Tryd.underlying9 (by decide) (by kernel_rfl) (by kernel_rfl) rfl rfl (by kernel_rfl) (by kernel_rfl) (by kernel_rfl) (fun _ _ _ h => h) rfl rfl ?_
          conv => arg 8; simp only [Act.put, List.setIfInBounds_toArray, List.set_cons_zero, List.set_cons_succ]
          refine rg_call 7 (d := (some 33)) (by kernel_rfl) (hC) rfl rfl (by kernel_rfl) rfl rfl ?_
          rintro e w6 ⟨y4, rfl, p6, r6, k6⟩
          refine ⟨_, rfl, k6, ?_⟩
          conv => arg 8; simp only [Act.put, List.setIfInBounds_toArray, List.set_cons_zero, List.set_cons_succ]
          refine rg_conv1 8 (d := (some 34)) (p6.readsB) Tryd.underlying22 Tryd.underlying5 Tryd.underlying9 rfl rfl (by kernel_rfl) rfl rfl ?_
          conv => arg 8; simp only [Act.put, List.setIfInBounds_toArray, List.set_cons_zero, List.set_cons_succ]
          refine rg_take 15 (d := (some 41)) (v := .bool false) (by decide) rfl rfl (by kernel_rfl) (by kernel_rfl) (by kernel_rfl) (fun _ _ _ h => h) rfl (fun W => by go_simp) ?_
          conv => arg 8; simp only [Act.put, List.setIfInBounds_toArray, List.set_cons_zero, List.set_cons_succ]
          refine rg_done (by kernel_rfl) ?_
          go_wp2
          go_roundw
          case rel => exact ⟨j + 1, by omega, by go_num, r6, (kk.thenN d5).trans k6 (fun _ _ x => x) (fun _ _ x => x)⟩
          case measure => exact meas_up hlt
      · obtain rfl : j = l.length := by omega
        go_wp2_with fail
        go_meet
        case rel => exact ⟨l.length, by omega, rfl, rr, kk⟩
  case rest =>
    obtain ⟨j, hj, hje, r3, k3⟩ := hcut
    obtain rfl : l.length = j := by injection hje with h1 h2; omega
    clear hje r2
    rw [List.take_length] at r3
    obtain ⟨L, hL⟩ : ∃ L, (laidS l).length = L := ⟨_, rfl⟩
    have hE : rEnd (laidS l) L 0 = 0 := by rw [rEnd, if_neg (by omega)]
    have hC := rdEnd_c r3
    rw [hL, hE] at hC
    have hLe : (laidS l).length - L = 0 := by omega
    have HL := Lib.hid hL
    have HLe := Lib.hid hLe
    clear hE hL hLe
    go_wp2_with fail
    refine hC.mono ?_
    rintro e w4 ⟨rfl, r4, k4⟩
    clear hC
    have hD := left_c r4
    rw [HLe.out] at hD
    go_wp2_with fail
    refine hD.mono ?_
    rintro e w5 ⟨rfl, k5⟩
    clear hD
    have k25 := (k3.trans k4 (fun _ _ x => x) (fun _ _ x => x)).thenN k5
    have k05 : KpN w w5 := k02.fresh k25 (fun i h1 => by omega)
    have hz5 := k25.size
    have o5 := o2.keep k25 (fun i h1 h2 => by have := h1.2; have := h2.1; omega)
    clear r3 k3 r4 k4 k5 o2
    obtain ⟨B, cb, hbv, hcb⟩ := o5.readsB.form
    rw [HL.out] at hbv hcb
    subst hbv
    obtain ⟨v6, w6, r6, o6, k6⟩ := run_appB_nil (P := Tryd.prog) (ty := 22) w5 Tryd.underlying22 u8info o5.readsB (by omega)
    have ka := (Kp.refl (fun _ => False) w6).alloc (.cells #[.int .u8 0] 5)
    obtain ⟨v7, w7, r7, o7, k7, _⟩ := run_appB (P := Tryd.prog) (ty := 22) (w6.alloc (.cells #[.int .u8 0] 5)) Tryd.underlying22 u8info (o6.keepN ka) (RdB.one w6 5 0 (by omega) (by omega)) (by simp; omega)
    have hx7 : laidS l ++ [UInt8.ofNat (0 : Int).toNat] = laidS l ++ [0] := rfl
    rw [hx7] at o7
    clear hx7
    have hz6 := k6.size
    have k57 : KpN w5 w7 := (k6.thenN ka).fresh k7 (fun i e => (o6.fit i e).1)
    have o7' := o7.wide (G := Iv w5.heap.size w7.heap.size) (fun k hk hf => ⟨by rcases hf with hf | hf; exact hf.1; have := hf.1; have := ka.size; omega, hk⟩)
    clear o6 o7 k6 k7
    go_wp2_with (first | refine app_op r6 rfl rfl ?_ | refine app_op r7 rfl rfl ?_)
    refine (new_c o7'.readsB (by simp; omega)).mono ?_
    rintro e w8 ⟨gs, us, rfl, q8, k8⟩
    have k58 := k57.thenN k8
    have o8 := o5.keepN k58
    have hz7 := k57.size
    have hz8 := k8.size
    clear o7' k57 k8 r6 r7
    have hLb : L ≤ 1000000000 := by have := HL.out; omega
    have htk : ∀ M : Nat, M = L - 1 → (laidS l).take M = (laidS l).dropLast := fun M e => by rw [List.dropLast_eq_take, HL.out, e]
    have hnew : ∀ M : Nat, M = L - 1 → Calls Tryd.prog 34 #[.slice B M cb] w8 fun e w' => ∃ g u, e = .returned (.pointer (some ⟨g, 0, none⟩)) ∧ RdrC w' (Iv w8.heap.size w'.heap.size) g u (laidS l).dropLast 0 0 ∧ KpN w8 w' := fun M e => by
      have := o8.readsB.take M (by omega)
      rw [htk M e] at this
      exact new_c this (by simp; have := HL.out; omega)
    have HN := Lib.hid hnew
    clear htk hnew
    go_upto_region 16 with fail
    go_cut [7] (fun p wx => ∃ gl ul, p = .pointer (some ⟨gl, 0, none⟩) ∧ RdrC wx (Iv w8.heap.size wx.heap.size) gl ul (laidS l).dropLast 0 0 ∧ KpN w8 wx)
    case first =>
      by_cases h0 : L = 0
      · subst h0
        go_wp2_with fail
        refine (HN.out 0 rfl).mono ?_
        rintro e w9 ⟨gl, ul, rfl, q9, k9⟩
        go_wp2_with fail
        go_meet
        case rel => exact ⟨gl, ul, rfl, q9, k9⟩
      · by_cases h1 : L = 1
        · subst h1
          go_wp2_with fail
          refine (HN.out 0 rfl).mono ?_
          rintro e w9 ⟨gl, ul, rfl, q9, k9⟩
          go_wp2_with fail
          go_meet
          case rel => exact ⟨gl, ul, rfl, q9, k9⟩
        · obtain ⟨M, hM⟩ : ∃ M, L - 1 = M := ⟨_, rfl⟩
          have e1 : (L : Int) - 1 = (M : Int) := by omega
          have hM0 : (0 : Int) < (M : Int) := by omega
          have hMc : (M : Int) ≤ (cb : Int) := by omega
          have hC := HN.out M hM.symm
          clear hM
          go_wp2_with fail
          refine hC.mono ?_
          rintro e w9 ⟨gl, ul, rfl, q9, k9⟩
          go_wp2_with fail
          go_meet
          case rel => exact ⟨gl, ul, rfl, q9, k9⟩
    case rest =>
      obtain ⟨gl, ul, rfl, q9, k9⟩ := hcut
      clear HN
      have s9 := q8.keepN k9
      have hz9 := k9.size
      have k09 : KpN w wc := (k05.thenN k58).thenN k9
      go_wp2_with fail
      go_loopw [8] (fun i wr => Back2 l (Iv w7.heap.size w8.heap.size) (Iv w8.heap.size wc.heap.size) gs gl us ul wc i wr) (fun i _ => l.length - (intOf i).toNat)
      case atStart => exact ⟨0, 0, 0, by omega, rfl, s9, q9, ⟨fun _ h => by omega, fun _ => ⟨rfl, rfl⟩⟩, Kp.refl _ _⟩
      case round =>
        obtain ⟨j, a, f, hj, rfl, rr, qq, hcu, kk⟩ := hrel
        have k0r : KpN w wr := k09.fresh kk (fun i hi => by rcases hi with hi | hi <;> have := hi.1 <;> omega)
        have hzr := kk.size
        by_cases hlt : j < l.length
        · obtain ⟨ad, sv, rfl, c0, c1, c2, rdy, hn64⟩ := h.row j hlt
          have hyj := hy l[j] (List.getElem_mem hlt)
          have hstep := full_step l [0] j hlt hn64 (by omega)
          have hcst := cut_step l j a f hlt hcu hn64 (by omega)
          obtain ⟨⟨b, n, ys⟩, ho⟩ : ∃ o, l[j] = o := ⟨_, rfl⟩
          rw [ho] at c0 c1 rdy hn64 hstep hyj hcst
          simp only at c0 c1 rdy hn64 hstep hyj hcst
          have HS := Lib.hid hstep
          have HT := Lib.hid hcst
          have hca : ∀ i u, w.cell? i = some u → ∀ W, KpN w W → W.cell? i = some u := fun i u hu W hW => by rw [hW.cell (World.block_lt_of_cell? w _ hu) (fun x => x)]; exact hu
          have C1 := Lib.hid (hca _ _ c1)
          have C2 := Lib.hid (hca _ _ c2)
          replace c0 := hca _ _ c0 wr k0r
          clear hstep hcst ho hca c1 c2 hcu
          rcases b with _ | _
          · have hC := rdNumber_c (most := n) rr hn64
            rw [HS.out.1 (by trivial)] at hC
            obtain ⟨n', a', f', hN, hok⟩ := HT.out.1 (by trivial)
            have HN := Lib.hid hN
            have HOK := Lib.hid hok
            have c1 := C1.out wr k0r
            clear hN hok
            go_wp2_with fail
            refine hC.mono ?_
            rintro e w10 ⟨rfl, r10, k10⟩
            clear hC
            have k010 := k0r.fresh k10 (fun i h1 => by omega)
            have c1 := C1.out w10 k010
            have hD := rdNumber_c (most := n) (qq.keep k10 (fun i h1 h2 => by have := h1.1; have := h2.2; omega)) hn64
            rw [HN.out] at hD
            go_wp2_with fail
            refine hD.mono ?_
            rintro e w11 ⟨rfl, r11, k11⟩
            clear hD
            have s11 := r10.keep k11 (fun i h1 h2 => by have := h1.2; have := h2.1; omega)
            have k911 := (kk.trans k10 (fun _ _ x => x) (fun _ _ x => .inl x)).trans k11 (fun _ _ x => x) (fun _ _ x => .inr x)
            clear c1
            go_wp2
            go_roundw
            case rel => exact ⟨j + 1, a', f', by omega, by go_num, s11, r11, HOK.out, k911⟩
            case measure => exact meas_up hlt
          · obtain ⟨B2, c2', rfl, hc2⟩ := rdy.form
            have hC := rdBytes_c (most := (ys.length : Int)) rr (by omega) (fun i hi => by have := hi.2; omega)
            rw [HS.out.2 (by trivial)] at hC
            obtain ⟨n', a', f', hN, hok⟩ := HT.out.2 (by trivial)
            have HN := Lib.hid hN
            have HOK := Lib.hid hok
            have c2 := C2.out wr k0r
            clear hN hok
            go_wp2_with fail
            refine hC.mono ?_
            rintro e w10 ⟨x10, rfl, p10, r10, k10⟩
            clear hC
            have k010 := k0r.fresh k10 (fun i h1 => by omega)
            have hz10 := k10.size
            have c2 := C2.out w10 k010
            have hD := rdBytes_c (most := (ys.length : Int)) (qq.keep k10 (fun i h1 h2 => by have := h1.1; have := h2.2; omega)) (by omega) (fun i hi => by have := hi.2; omega)
            rw [HN.out] at hD
            go_wp2_with fail
            refine hD.mono ?_
            rintro e w11 ⟨x11, rfl, p11, r11, k11⟩
            clear hD
            have s11 := r10.keep k11 (fun i h1 h2 => by have := h1.2; have := h2.1; omega)
            have k911 := (kk.trans k10 (fun _ _ x => x) (fun _ _ x => .inl x)).trans k11 (fun _ _ x => x) (fun _ _ x => .inr x)
            clear c2
            go_wp2
            go_roundw
            case rel => exact ⟨j + 1, a', f', by omega, by go_num, s11, r11, HOK.out, k911⟩
            case measure => exact meas_up hlt
        · obtain rfl : j = l.length := by omega
          rw [List.take_length, HL.out] at rr
          have hE : rEnd (laidS l ++ [0]) L 0 = 11 := by rw [rEnd, if_pos (by simp; have := HL.out; omega)]
          have hC := rdEnd_c rr
          rw [hE] at hC
          have hLe : (laidS l ++ [0]).length - L = 1 := by simp; have := HL.out; omega
          have HLe := Lib.hid hLe
          clear hE hLe
          go_wp2_with fail
          refine hC.mono ?_
          rintro e w10 ⟨rfl, r10, k10⟩
          clear hC
          have hD := left_c r10
          rw [HLe.out] at hD
          go_wp2_with fail
          refine hD.mono ?_
          rintro e w11 ⟨rfl, k11⟩
          clear hD
          have k011 := (k0r.fresh k10 (fun i h1 => by omega)).thenN k11
          have q11 := (qq.keep k10 (fun i h1 h2 => by have := h1.1; have := h2.2; omega)).keepN k11
          by_cases h0 : L = 0
          · subst h0
            go_wp2
            go_ret
            exact ⟨rfl, k011⟩
          · have hl0 : 0 < l.length := by
              rcases l with _ | ⟨x, r⟩
              · have := HL.out
                simp [laidS] at this
                omega
              · simp
            have hf := hcu.1 rfl hl0
            subst hf
            have h0i : ¬ (L : Int) = 0 := by omega
            clear hcu
            go_wp2_with fail
            refine (err_c q11).mono ?_
            rintro e w12 ⟨rfl, rfl⟩
            go_wp2
            go_ret
            exact ⟨rfl, k011⟩
theorem mem_sum (l : List It) (m : Nat) (h : (l.map fun i => i.2.2.length + 1).sum ≤ m) : ∀ i ∈ l, i.2.2.length ≤ m := by
  induction l generalizing m with
  | nil => intro i hi; cases hi
  | cons x r ih =>
    intro i hi
    simp only [List.map_cons, List.sum_cons] at h
    rcases List.mem_cons.1 hi with rfl | hi
    · omega
    · exact Nat.le_trans (ih _ (Nat.le_refl _) i hi) (by omega)
theorem back_all {v : Value} {l : List It} {w : World} (h : RdIts w v l) (ht : TabOk w) (hs : (l.map fun i => i.2.2.length + 1).sum ≤ 1048576 ∧ l.length ≤ 1048576 ∧ ∀ i ∈ l, i.2.1 < 18446744073709551616) :
    Calls Tryd.prog 13 #[v] w fun e w' => e = .returned (.bool true) ∧ KpN w w' := by
  have hm := mem_sum l _ hs.1
  have hl := laid_len l _ (fun i hi => ⟨hs.2.2 i hi, by have := hm i hi; omega⟩) hs.1
  exact back_walk h ht (by omega) (by omega) (fun i hi => by have := hm i hi; omega)
end Go.Proofs.YtjhndppmpldfbaaDoor
