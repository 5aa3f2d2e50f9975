/- The document's disk: New, Load. -/
import Derived.Test.YthkbgbbejgpeaaaYI
namespace Go.Proofs.Ythkbgbbejgpeaaa
open Go Go.RowKit
set_option maxRecDepth 100000

theorem secInfoR : (Try.prog.info? 96).map (fun i => (i.zero, i.size, i.bytes)) = some (some (.agg #[.slice none 0 0, .bool false, .slice none 0 0]), 3, 56) := by kernel_rfl
theorem made3 (n i k : Nat) (hi : i < n) (hk : k < 3) : (madeCells (Value.agg #[.slice none 0 0, .bool false, .slice none 0 0]).cells (n * 3))[i * 3 + k]? = #[Value.slice none 0 0, .bool false, .slice none 0 0][k]? := by
  have hlt : i * 3 + k < n * 3 := by omega
  simp only [madeCells, Value.cells]
  rw [Array.getElem?_eq_getElem (by simpa using hlt), Array.getElem?_eq_getElem (by simpa using hk)]
  have : (i * 3 + k) % 3 = k := by omega
  simp only [List.size_toArray, List.length_cons, List.length_nil, Array.getElem_map, Array.getElem_range, Nat.reduceAdd, Nat.zero_add, this]
  rcases k with _ | _ | _ | k
  · rfl
  · rfl
  · rfl
  · omega
theorem RefM.blank {w w' : World} {n g b : Nat} (h1 : 1 ≤ n) (h2 : n ≤ 65536) (lg : w.heap.size ≤ g) (lb : w.heap.size ≤ b) (ne : g ≠ b)
    (hg : w'.heap[g]? = some (.cells #[.slice (some ⟨b, 0, none⟩) n n, .bool false, .int .i64 (-1)] 94 (0, 0)))
    (hb : w'.heap[b]? = some (.cells (madeCells (Value.agg #[.slice none 0 0, .bool false, .slice none 0 0]).cells (n * 3)) 96 (0, 0))) :
    RefM w' (Iv w.heap.size w'.heap.size) g b (fun _ => .slice none 0 0) (fun _ => .slice none 0 0) (fun _ => []) (newD n) := by
  have l1 := (Array.getElem?_eq_some_iff.1 hg).1
  have l2 := (Array.getElem?_eq_some_iff.1 hb).1
  refine ⟨h1, h2, ⟨⟨lg, l1⟩, ⟨lb, l2⟩⟩, ne, ⟨l1, l2⟩, by simp [World.cell?, hg, newD], by simp [World.cell?, hg, newD], by simp [World.cell?, hg, newD], fun j => frozen_of_row _ _ j _ _ hg, by simp [newD], ?_, ?_, ?_, fun j => frozen_of_row _ _ j _ _ hb, fun i _ => zsec_len, fun i _ => .inl ⟨rfl, rfl⟩, fun i _ => Own2.nil _ _ _ _, fun i _ => rfl, fun i _ s hs => (by cases hs), fun i j _ _ _ m hm => (by cases hm), fun i _ m hm => (by cases hm), fun i _ m hm => (by cases hm), fun i _ p hp => (by cases hp)⟩
  · intro i hi
    rw [cell_of_row _ _ _ _ _ _ hb]
    exact made3 n i 0 hi (by omega)
  · intro i hi
    rw [cell_of_row _ _ _ _ _ _ hb]
    exact made3 n i 1 hi (by omega)
  · intro i hi
    rw [cell_of_row _ _ _ _ _ _ hb]
    exact made3 n i 2 hi (by omega)
/-- the two blocks of a new disk -/
theorem RefM.made (w : World) {n : Nat} (h1 : 1 ≤ n) (h2 : n ≤ 65536) : ∃ W1, (Instr.makeSlice 92 (.int .i64 (n : Int)) (.int .i64 (n : Int))).run Try.prog w = .ok (.slice (some ⟨w.heap.size, 0, none⟩) n n) W1 ∧ W1.heap.size = w.heap.size + 1 ∧ KpN w W1 ∧
    RefM (W1.alloc (.cells #[.slice (some ⟨w.heap.size, 0, none⟩) n n, .bool false, .int .i64 (-1)] 94)) (Iv w.heap.size (W1.alloc (.cells #[.slice (some ⟨w.heap.size, 0, none⟩) n n, .bool false, .int .i64 (-1)] 94)).heap.size) W1.heap.size w.heap.size (fun _ => .slice none 0 0) (fun _ => .slice none 0 0) (fun _ => []) (newD n) := by
  refine ⟨_, run_mk (t := 92) Try.underlying92 secInfoR n (by omega) (by omega) w, by simp, (Kp.refl _ w).alloc _, RefM.blank h1 h2 (by simp) (Nat.le_refl _) (by simp) (alloc_at _ _) ?_⟩
  rw [Below.heap_alloc _ _ _ (by simp)]
  exact alloc_at _ _
def RNewX (w : World) (n : Nat) (e : Ending) (w' : World) : Prop := ∃ g, e = .returned (.tuple #[.pointer (some ⟨g, 0, none⟩), .int .i64 0]) ∧ RefX w' (Iv w.heap.size w'.heap.size) g (newD n) ∧ KpN w w'
theorem new_r {n : Nat} {w : World} (h1 : 1 ≤ n) (hn : n ≤ 65536) : Calls Try.prog 53 #[.int .i64 (n : Int)] w (RNewX w n) := by
  obtain ⟨W1, hmk, hz, k1, hr⟩ := RefM.made w h1 hn
  have k2 := k1.alloc (.cells #[.slice (some ⟨w.heap.size, 0, none⟩) n n, .bool false, .int .i64 (-1)] 94)
  have hfin : RNewX w n (.returned (.tuple #[.pointer (some ⟨W1.heap.size, 0, none⟩), .int .i64 0])) (W1.alloc (.cells #[.slice (some ⟨w.heap.size, 0, none⟩) n n, .bool false, .int .i64 (-1)] 94)) := ⟨_, rfl, ⟨_, _, _, _, hr⟩, k2⟩
  have HF := Lib.hid hfin
  clear hfin hr k2 k1 hz
  go_enter Try.func53, Try.ntmps53
  go_wp2
  go_ret2
  exact HF.out
theorem new_bad {n : Int} {w : World} (h : n < 1 ∨ 65536 < n) : Calls Try.prog 53 #[.int .i64 n] w fun e w' => e = .returned (.tuple #[.pointer none, .int .i64 1]) ∧ w = w' := by
  go_enter Try.func53, Try.ntmps53
  by_cases h1 : n < 1
  · go_wp2
    go_ret2
    exact ⟨rfl, rfl⟩
  · have h2 : n > 65536 := by omega
    clear h
    go_wp2
    go_ret2
    exact ⟨rfl, rfl⟩
section
variable {w : World} {F : Nat → Prop} {g b : Nat} {tv vv : Nat → Value} {vs : Nat → List (Value × List UInt8)} {d : Dk}
/-- a sector that holds nothing yet gets its mark -/
theorem RefM.setBad (h : RefM w F g b tv vv vs d) {i : Nat} (hi : i < d.n) (t : Bool) (ht : tv i = .slice none 0 0) (hc : d.ca i = []) : RefM (w.setCell ⟨b, i * 3 + 1, none⟩ (.bool t)) F g b (upd tv i (.slice none 0 0)) (upd vv i (vv i)) (upd vs i (vs i)) ⟨d.n, upd d.du i zsec, upd d.to i t, upd d.ca i [], d.off, d.fuse⟩ := by
  have kk : Kp (fun m => m = b) w (w.setCell ⟨b, i * 3 + 1, none⟩ (.bool t)) := kp1_set (F := fun m => m = b) rfl (i * 3 + 1) _
  have h0 := h.t0 i hi
  rw [ht] at h0
  refine h.sec hi kk (fun m hm => .inl hm) (fun _ x => x) (fun j h0 h1 h2 => ?_) (fun j => ?_) ?_ (World.cell?_setCell_same _ _ _ (h.t1 i hi)) ?_ zsec_len (.inl ⟨rfl, rfl⟩) ((h.vx i hi).keepB kk (fun m hm e => (h.sepd i hi m hm).2 e) (fun p hp m hm e => (h.seps i hi p hp m hm).2 e)) (by rw [h.va i hi, hc]) (fun s hs => by cases hs) (fun m hm => .inl hm) (fun m hm => by cases hm) (h.seps i hi)
  · rw [World.cell?_setCell_other _ _ _ _ (off_ne (fun e => h1 e.symm))]
  · rw [World.frozen?_setCell]; exact h.bz j
  · rw [World.cell?_setCell_other _ _ _ _ (off_ne (by omega))]; exact h0
  · rw [World.cell?_setCell_other _ _ _ _ (off_ne (by omega))]; exact h.t2 i hi
/-- .. its text -/
theorem RefM.setText {w1 : World} (h : RefM w F g b tv vv vs d) {i : Nat} (hi : i < d.n) (k1 : KpN w w1) {u : Value} {x : List UInt8} (o : OwB w1 5 (Iv w.heap.size w1.heap.size) u x) (hx : x.length = 128) (hc : d.ca i = []) (ht : d.to i = false) :
    RefM (w1.setCell ⟨b, i * 3, none⟩ u) (fun m => F m ∨ Iv w.heap.size w1.heap.size m) g b (upd tv i u) (upd vv i (vv i)) (upd vs i (vs i)) ⟨d.n, upd d.du i x, upd d.to i false, upd d.ca i [], d.off, d.fuse⟩ := by
  have hb := h.lt
  have ks : Kp (fun m => m = b) w1 (w1.setCell ⟨b, i * 3, none⟩ u) := kp1_set (F := fun m => m = b) rfl (i * 3) _
  have kk : Kp (fun m => m = b) w (w1.setCell ⟨b, i * 3, none⟩ u) := Kp.after k1 ks
  have h1 := h.keepN k1
  have h10 := h1.t1 i hi
  rw [ht] at h10
  have hu : ∀ m, u.ownBlock = some m → m ≠ g ∧ m ≠ b := fun m hm => by have := (o.fit m hm).1; exact ⟨by omega, by omega⟩
  refine h.sec hi kk (fun m hm => .inl hm) (fun _ x => .inl x) (fun j e0 e1 e2 => ?_) (fun j => ?_) (World.cell?_setCell_same _ _ _ (h1.t0 i hi)) ?_ ?_ hx (.inr ⟨rfl, (o.keepB ks (fun m hm e => (hu m hm).2 e)).wide (fun m _ hm => .inr hm)⟩) (((h.vx i hi).keepB kk (fun m hm e => (h.sepd i hi m hm).2 e) (fun p hp m hm e => (h.seps i hi p hp m hm).2 e)).wide (fun m _ hm => .inl hm)) (by rw [h.va i hi, hc]) (fun s hs => by cases hs) (fun m hm => .inl hm) hu (h.seps i hi)
  · rw [World.cell?_setCell_other _ _ _ _ (off_ne (fun e => e0 e.symm)), k1.cell (p := ⟨b, j, none⟩) hb.2 (fun x => x)]
  · rw [World.frozen?_setCell]; exact h1.bz j
  · rw [World.cell?_setCell_other _ _ _ _ (off_ne (by omega))]; exact h10
  · rw [World.cell?_setCell_other _ _ _ _ (off_ne (by omega))]; exact h1.t2 i hi
end
theorem upd_upd {α : Type} (f : Nat → α) (i : Nat) (u v : α) (j : Nat) : upd (upd f i u) i v j = upd f i v j := by
  by_cases h : j = i
  · subst h; rw [upd_same, upd_same]
  · rw [upd_ne _ _ h, upd_ne _ _ h, upd_ne _ _ h]
theorem loadI_step (img : List UInt8) (n q i : Nat) (x : List UInt8) (t : Bool) (hx : imgText img q = x) (ht : decide (imgHead img q = 1) = t) : (loadI img n (q + 1)).du i = upd (loadI img n q).du q x i ∧ (loadI img n (q + 1)).to i = upd (loadI img n q).to q t i ∧ (loadI img n (q + 1)).ca i = upd (loadI img n q).ca q [] i := by
  by_cases h : i = q
  · subst h
    rw [upd_same, upd_same, upd_same]
    exact ⟨by simp [loadI, hx], by simp [loadI, ht], rfl⟩
  · rw [upd_ne _ _ h, upd_ne _ _ h, upd_ne _ _ h]
    have : (i < q + 1) = (i < q) := by apply propext; omega
    simp [loadI, this]
def RLoadX (w : World) (r : Option Dk) (e : Ending) (w' : World) : Prop := match r with
  | some d => ∃ g, e = .returned (.tuple #[.pointer (some ⟨g, 0, none⟩), .int .i64 0]) ∧ RefX w' (Iv w.heap.size w'.heap.size) g d ∧ KpN w w'
  | none => e = .returned (.tuple #[.pointer none, .int .i64 1]) ∧ KpN w w'
def LdRel (w : World) (img : List UInt8) (n g b : Nat) (i : Value) (wr : World) : Prop := ∃ (q : Nat) (tv vv : Nat → Value) (vs : Nat → List (Value × List UInt8)), q ≤ n ∧ i = .int .i64 q ∧ (∀ j, j < q → goodRow img j = true) ∧ (∀ j, q ≤ j → j < n → tv j = .slice none 0 0) ∧ RefM wr (Iv w.heap.size wr.heap.size) g b tv vv vs (loadI img n q) ∧ KpN w wr
set_option maxHeartbeats 6400000 in
theorem load_r {w : World} {A : Option Addr} {N c : Nat} {img : List UInt8} (hi : RdB w (.slice A N c) img) (hN : N ≤ 1000000000) : Calls Try.prog 52 #[.slice A N c] w (RLoadX w (loadD img)) := by
  have hl := hi.len
  obtain ⟨n, r, hr, hNn⟩ : ∃ n r, r < 129 ∧ N = n * 129 + r := ⟨N / 129, N % 129, Nat.mod_lt _ (by omega), by omega⟩
  have hq : (N : Int) / 129 = (n : Int) := by omega
  have hdn : img.length / 129 = n := by omega
  have hdr : img.length % 129 = r := by omega
  have HL := Lib.hid (And.intro hl (And.intro hdn (And.intro hdr hNn)))
  by_cases hbad : r ≠ 0 ∨ n < 1 ∨ 65536 < n
  · have hD : loadD img = none := by
      unfold loadD
      rw [HL.out.2.1, HL.out.2.2.1]
      exact if_neg (fun h => by omega)
    have HD := Lib.hid hD
    clear hD hl hdn hdr
    by_cases h1 : n < 1
    · clear hNn hbad
      go_enter Try.func52, Try.ntmps52
      go_wp2
      go_ret2
      rw [HD.out]
      exact ⟨rfl, Kp.refl _ _⟩
    · by_cases h2 : 65536 < n
      · have h2' : n > 65536 := h2
        clear hNn hbad
        go_enter Try.func52, Try.ntmps52
        go_wp2
        go_ret2
        rw [HD.out]
        exact ⟨rfl, Kp.refl _ _⟩
      · have h3 : ((N : Int) != (n : Int) * 129) = true := by simp; omega
        clear hNn hbad
        go_enter Try.func52, Try.ntmps52
        go_wp2
        go_ret2
        rw [HD.out]
        exact ⟨rfl, Kp.refl _ _⟩
  · obtain ⟨h0, h1, h2⟩ : r = 0 ∧ 1 ≤ n ∧ n ≤ 65536 := by omega
    subst h0
    clear hbad
    have hNp : 0 < N := by omega
    obtain ⟨ad, hA⟩ : ∃ ad, A = some ad := by
      obtain ⟨ad, hA, _⟩ := hi.at_ 0 (by omega)
      exact ⟨ad, hA⟩
    subst hA
    have hcap : N ≤ c := by
      obtain ⟨_, A', c', hv, hc, _⟩ := hi
      injection hv with e1 e2 e3
      omega
    have HI := Lib.hid hi
    obtain ⟨W1, hmk, hz, k1, hr1⟩ := RefM.made w h1 h2
    have k2 := k1.alloc (.cells #[.slice (some ⟨w.heap.size, 0, none⟩) n n, .bool false, .int .i64 (-1)] 94)
    rw [← loadI_zero img n] at hr1
    have H1 := Lib.hid hr1
    have HZ := Lib.hid hz
    have hmul : (n : Int) * 129 = (N : Int) := by omega
    clear hi hl hdn hdr hNn hr1 hz
    go_enter Try.func52, Try.ntmps52
    go_wp2_with fail
    generalize W1.alloc (.cells #[.slice (some ⟨w.heap.size, 0, none⟩) n n, .bool false, .int .i64 (-1)] 94) = W2 at k2 H1 ⊢
    go_loopw [6] (fun i wr => LdRel w img n W1.heap.size w.heap.size i wr) (fun i _ => n - (intOf i).toNat)
    case atStart => exact ⟨0, _, _, _, Nat.zero_le _, rfl, fun j hj => (by omega), fun _ _ _ => rfl, H1.out, k2⟩
    case round =>
      clear H1
      obtain ⟨q, tv, vv, vs, hq, rfl, hgood, htv, hd, hk⟩ := hrel
      have c0 : wr.cell? ⟨W1.heap.size, 0, none⟩ = some (.slice (some ⟨w.heap.size, 0, none⟩) n n) := hd.c0
      by_cases hlt : q < n
      · have b1 : q * 129 + 129 ≤ N := by have := HL.out.2.2.2; omega
        have b2 : (q + 1) * 129 - q * 129 = 129 := by omega
        have hi1 := HI.out.keepN hk
        have hPlt : ad.block < w.heap.size := by
          obtain ⟨ad', e2, hcc⟩ := HI.out.at_ 0 (by have := HI.out.len; omega)
          injection e2 with e2
          subst e2
          have hlt := World.block_lt_of_cell? w _ hcc
          rwa [add_block] at hlt
        have hcellP : ∀ j (hj : q * 129 + j < img.length), wr.cell? ((ad.add (q * 129)).add j) = some (bv img[q * 129 + j]) := fun j hj => by
          obtain ⟨ad', e2, hcc⟩ := hi1.at_ (q * 129 + j) hj
          injection e2 with e2
          subst e2
          rw [add_add]
          exact hcc
        have hPb : (ad.add (q * 129)).block = ad.block := add_block _ _
        obtain ⟨P, hP⟩ : ∃ P, ad.add (q * 129) = P := ⟨_, rfl⟩
        rw [hP] at hcellP hPb
        have hC : 129 ≤ c - q * 129 := by omega
        have HD := Lib.hid hd
        have HP := Lib.hid hP
        have HPB := Lib.hid hPb
        clear hd hi1 hP hPb
        go_wp2_with fail
        rw [b2, HP.out]
        obtain ⟨C, hCC⟩ : ∃ C, c - q * 129 = C := ⟨_, rfl⟩
        rw [hCC] at hC ⊢
        have hC1 : ¬ C = 1 := by omega
        clear hCC
        obtain ⟨T, hT⟩ : ∃ T, imgText img q = T := ⟨_, rfl⟩
        have hTl : T.length = 128 := by rw [← hT]; exact imgText_len img q n hlt (by have := HL.out; omega)
        have hrdT : RdB wr (.slice (some (P.add 1)) 128 (C - 1)) T := by
          refine ⟨by rw [bvs_length, hTl], some (P.add 1), C - 1, by rw [hTl], by rw [hTl]; omega, fun j v hj => ⟨_, rfl, ?_⟩⟩
          have hj1 : j < 128 := by have := (List.getElem?_eq_some_iff.1 hj).1; rw [bvs_length] at this; omega
          have hji : q * 129 + (1 + j) < img.length := by have := HL.out; omega
          have hv : v = bv img[q * 129 + (1 + j)] := by
            have h5 : T[j]? = some img[q * 129 + (1 + j)] := by
              rw [← hT, imgText, List.getElem?_take, if_pos hj1, List.getElem?_drop, ← List.getElem?_eq_getElem hji]
              congr 1
              omega
            rw [bvs_get, h5] at hj
            exact (Option.some.inj hj).symm
          rw [hv, add_add]
          exact hcellP (1 + j) hji
        have h0i : q * 129 + 0 < img.length := by have := HL.out; omega
        have hcell0 := hcellP 0 h0i
        rw [show P.add 0 = P from rfl] at hcell0
        have hhd : imgHead img q = img[q * 129 + 0] := by simp [imgHead, List.getD, show q * 129 < img.length from h0i]
        obtain ⟨b0, hb0⟩ : ∃ b0, img[q * 129 + 0] = b0 := ⟨_, rfl⟩
        rw [hb0] at hcell0 hhd
        have HT := Lib.hid (And.intro hT hhd)
        have HRD := Lib.hid hrdT
        have HTL := Lib.hid hTl
        clear hT hhd hb0 hcellP hrdT hTl
        go_wp2_with fail
        have hon := only_r HRD.out (by rw [HTL.out]; omega)
        rw [HTL.out] at hon
        refine hon.mono ?_
        rintro e w3 ⟨rfl, k3⟩
        have hk3 := hk.thenN k3
        have hPlt3 : P.block < w3.heap.size := by have := hk3.size; have := HPB.out; omega
        have hcell3 : w3.cell? P = some (bv b0) := by
          rw [k3.cell (by have := hk.size; have := HPB.out; omega) (fun x => x)]
          exact hcell0
        have hd3 := (HD.out.wide (G := Iv w.heap.size w3.heap.size) (fun i _ hi => ⟨hi.1, by have := hi.2; have := k3.size; omega⟩)).keepN k3
        have HD3 := Lib.hid hd3
        have HR3 := Lib.hid (HRD.out.keepN k3)
        clear hcell0 HD hon hd3 HRD k3
        -- what a row that is not one comes to
        have hnone : ¬ goodRow img q = true → loadD img = none := fun hgr => by
          unfold loadD
          rw [HL.out.2.1]
          exact if_neg (fun h => hgr (h.2.2.2 q hlt))
        have HNO := Lib.hid hnone
        have HGOOD := Lib.hid hgood
        have HTV := Lib.hid htv
        clear hnone hgood htv c0
        -- a row with its mark alone
        have hmark : ∀ (t : Bool) (w4 : World), KpN w3 w4 → T = zsec → decide (imgHead img q = 1) = t → goodRow img q = true → LdRel w img n W1.heap.size w.heap.size (.int .i64 ((q : Int) + 1)) (w4.setCell ⟨w.heap.size, q * 3 + 1, none⟩ (.bool t)) := fun t w4 d4 hTz htt hgr => by
          have h4 := (HD3.out.wide (G := Iv w.heap.size w4.heap.size) (fun i _ hi => ⟨hi.1, by have := hi.2; have := d4.size; omega⟩)).keepN d4
          have h5 := h4.setBad hlt t (HTV.out q (Nat.le_refl _) hlt) rfl
          have h6 := h5.cong (d' := loadI img n (q + 1)) rfl (fun i _ => loadI_step img n q i zsec t (by rw [HT.out.1, hTz]) htt) ⟨rfl, rfl⟩
          refine ⟨q + 1, _, _, _, by omega, by go_num, fun j hj => ?_, fun j h1 h2 => ?_, h6.wide (fun i _ hi => ⟨hi.1, by have := hi.2; simpa using this⟩), (hk3.thenN d4).setCell (p := ⟨w.heap.size, q * 3 + 1, none⟩) (.inr (Nat.le_refl _)) _⟩
          · by_cases hjq : j = q
            · rw [hjq]; exact hgr
            · exact HGOOD.out j (by omega)
          · rw [upd_ne _ _ (by omega)]
            exact HTV.out j (by omega) h2
        have HMARK := Lib.hid hmark
        clear hmark
        have hw3 : W1.heap.size < w3.heap.size ∧ w.heap.size < w3.heap.size := HD3.out.lt
        by_cases hTz : T = zsec
        · rw [show decide (T = List.replicate 128 0) = true from decide_eq_true hTz]
          by_cases hz0 : b0 = 0
          · subst hz0
            have hgr : goodRow img q = true := by simp [goodRow, HT.out.2]
            have htt : decide (imgHead img q = 1) = false := by rw [HT.out.2]; rfl
            have hb : bv 0 = .int .u8 0 := rfl
            rw [hb] at hcell3
            have HE := Lib.hid (fun w4 d4 => HMARK.out false w4 d4 hTz htt hgr)
            clear hb hgr htt hTz
            go_wp2_with fail
            refine rg_begin 11 (fun _ => False) (by kernel_rfl) (fun w4 d4 => ?_)
            have hfin := HE.out w4 d4
            have h4 := HD3.out.keepN d4
            have c04 : w4.cell? ⟨W1.heap.size, 0, none⟩ = some (.slice (some ⟨w.heap.size, 0, none⟩) n n) := h4.c0
            have hs4 : (w4.cell? ⟨w.heap.size, q * 3 + 1, none⟩).isSome = true := by rw [h4.t1 q hlt]; rfl
            have hc4 : w4.cell? P = some (.int .u8 0) := by rw [d4.cell hPlt3 (fun x => x)]; exact hcell3
            refine rg_take 0 (d := (some 58)) (v := .pointer (some ⟨W1.heap.size, 0, none⟩)) (by decide) rfl rfl (by kernel_rfl) (by kernel_rfl) (by kernel_rfl) (fun _ _ _ h => h) rfl (fun W => rfl) ?_
            conv => arg 8; simp only [Act.put, List.setIfInBounds_toArray, List.set_cons_zero, List.set_cons_succ]
            refine rg_take 1 (d := (some 59)) (v := .pointer (some ⟨W1.heap.size, 0, none⟩)) (by decide) rfl rfl (by kernel_rfl) (by kernel_rfl) (by kernel_rfl) (fun _ _ _ h => h) rfl (fun W => by go_simp) ?_
            conv => arg 8; simp only [Act.put, List.setIfInBounds_toArray, List.set_cons_zero, List.set_cons_succ]
            refine rg_take 2 (d := (some 60)) (v := .pointer (some ⟨W1.heap.size, 0, none⟩)) (by decide) rfl rfl (by kernel_rfl) (by kernel_rfl) (by kernel_rfl) (fun _ _ _ h => h) rfl (fun W => by go_simp) ?_
            conv => arg 8; simp only [Act.put, List.setIfInBounds_toArray, List.set_cons_zero, List.set_cons_succ]
            refine rg_read 3 (d := (some 61)) (v := .slice (some ⟨w.heap.size, 0, none⟩) n n) (by decide) (by kernel_rfl) (by kernel_rfl) rfl rfl (by kernel_rfl) (by kernel_rfl) (by kernel_rfl) (fun _ _ _ h => h) rfl (fun W hW => by have hc := (hW.cell (p := ⟨W1.heap.size, 0, none⟩) (h4.lt.1) (fun x => x)).trans (c04); go_simp) ?_
            conv => arg 8; simp only [Act.put, List.setIfInBounds_toArray, List.set_cons_zero, List.set_cons_succ]
            refine rg_take 4 (d := (some 62)) (v := .int .i64 q) (by decide) rfl rfl (by kernel_rfl) (by kernel_rfl) (by kernel_rfl) (fun _ _ _ h => h) rfl (fun W => rfl) ?_
            conv => arg 8; simp only [Act.put, List.setIfInBounds_toArray, List.set_cons_zero, List.set_cons_succ]
            refine rg_take 5 (d := (some 63)) (v := .slice (some P) 129 C) (by decide) rfl rfl (by kernel_rfl) (by kernel_rfl) (by kernel_rfl) (fun _ _ _ h => h) rfl (fun W => rfl) ?_
            conv => arg 8; simp only [Act.put, List.setIfInBounds_toArray, List.set_cons_zero, List.set_cons_succ]
            refine rg_take 6 (d := (some 64)) (v := .pointer (some P)) (by decide) rfl rfl (by kernel_rfl) (by kernel_rfl) (by kernel_rfl) (fun _ _ _ h => h) rfl (fun W => by go_simp) ?_
            conv => arg 8; simp only [Act.put, List.setIfInBounds_toArray, List.set_cons_zero, List.set_cons_succ]
            refine rg_read 7 (d := (some 65)) (v := .int .u8 0) (by decide) (by kernel_rfl) (by kernel_rfl) rfl rfl (by kernel_rfl) (by kernel_rfl) (by kernel_rfl) (fun _ _ _ h => h) rfl (fun W hW => by have hc := (hW.cell (p := P) ((by have := d4.size; omega)) (fun x => x)).trans (hc4); go_simp) ?_
            conv => arg 8; simp only [Act.put, List.setIfInBounds_toArray, List.set_cons_zero, List.set_cons_succ]
            refine rg_take 8 (d := (some 66)) (v := .bool false) (by decide) rfl rfl (by kernel_rfl) (by kernel_rfl) (by kernel_rfl) (fun _ _ _ h => h) rfl (fun W => by go_simp) ?_
            conv => arg 8; simp only [Act.put, List.setIfInBounds_toArray, List.set_cons_zero, List.set_cons_succ]
            refine rg_take 9 (d := (some 67)) (v := .pointer (some ⟨w.heap.size, q * 3, none⟩)) (by decide) rfl rfl (by kernel_rfl) (by kernel_rfl) (by kernel_rfl) (fun _ _ _ h => h) rfl (fun W => by go_simp) ?_
            conv => arg 8; simp only [Act.put, List.setIfInBounds_toArray, List.set_cons_zero, List.set_cons_succ]
            refine rg_take 10 (d := (some 68)) (v := .pointer (some ⟨w.heap.size, q * 3 + 1, none⟩)) (by decide) rfl rfl (by kernel_rfl) (by kernel_rfl) (by kernel_rfl) (fun _ _ _ h => h) rfl (fun W => by go_simp) ?_
            conv => arg 8; simp only [Act.put, List.setIfInBounds_toArray, List.set_cons_zero, List.set_cons_succ]
            refine rg_lastS (G := fun _ => True) (w4.setCell ⟨w.heap.size, q * 3 + 1, none⟩ (.bool false)) (d := none) rfl rfl (by kernel_rfl) rfl (run_store_op (run_storeAt_one w4 w.heap.size (q * 3 + 1) 4 (.bool false) hs4 (h4.bz _) (by kernel_rfl) rfl rfl) rfl rfl) (by kernel_rfl) ?_
            conv => arg 8; simp only [Act.put, List.setIfInBounds_toArray, List.set_cons_zero, List.set_cons_succ]
            refine rg_done (by kernel_rfl) ?_
            have HF := Lib.hid hfin
            clear hfin h4 c04 hs4 hc4
            generalize w4.setCell ⟨w.heap.size, q * 3 + 1, none⟩ (.bool false) = w5 at HF ⊢
            go_wp2_with fail
            exact ⟨HF.out, meas_up hlt⟩
          · by_cases hz1 : b0 = 1
            · subst hz1
              have hgr : goodRow img q = true := by simp [goodRow, HT.out.2, HT.out.1, hTz]
              have htt : decide (imgHead img q = 1) = true := by rw [HT.out.2]; rfl
              have hb : bv 1 = .int .u8 1 := rfl
              rw [hb] at hcell3
              have HE := Lib.hid (fun w4 d4 => HMARK.out true w4 d4 hTz htt hgr)
              clear hb hgr htt hTz hz0
              go_wp2_with fail
              refine rg_begin 11 (fun _ => False) (by kernel_rfl) (fun w4 d4 => ?_)
              have hfin := HE.out w4 d4
              have h4 := HD3.out.keepN d4
              have c04 : w4.cell? ⟨W1.heap.size, 0, none⟩ = some (.slice (some ⟨w.heap.size, 0, none⟩) n n) := h4.c0
              have hs4 : (w4.cell? ⟨w.heap.size, q * 3 + 1, none⟩).isSome = true := by rw [h4.t1 q hlt]; rfl
              have hc4 : w4.cell? P = some (.int .u8 1) := by rw [d4.cell hPlt3 (fun x => x)]; exact hcell3
              refine rg_take 0 (d := (some 58)) (v := .pointer (some ⟨W1.heap.size, 0, none⟩)) (by decide) rfl rfl (by kernel_rfl) (by kernel_rfl) (by kernel_rfl) (fun _ _ _ h => h) rfl (fun W => rfl) ?_
              conv => arg 8; simp only [Act.put, List.setIfInBounds_toArray, List.set_cons_zero, List.set_cons_succ]
              refine rg_take 1 (d := (some 59)) (v := .pointer (some ⟨W1.heap.size, 0, none⟩)) (by decide) rfl rfl (by kernel_rfl) (by kernel_rfl) (by kernel_rfl) (fun _ _ _ h => h) rfl (fun W => by go_simp) ?_
              conv => arg 8; simp only [Act.put, List.setIfInBounds_toArray, List.set_cons_zero, List.set_cons_succ]
              refine rg_take 2 (d := (some 60)) (v := .pointer (some ⟨W1.heap.size, 0, none⟩)) (by decide) rfl rfl (by kernel_rfl) (by kernel_rfl) (by kernel_rfl) (fun _ _ _ h => h) rfl (fun W => by go_simp) ?_
              conv => arg 8; simp only [Act.put, List.setIfInBounds_toArray, List.set_cons_zero, List.set_cons_succ]
              refine rg_read 3 (d := (some 61)) (v := .slice (some ⟨w.heap.size, 0, none⟩) n n) (by decide) (by kernel_rfl) (by kernel_rfl) rfl rfl (by kernel_rfl) (by kernel_rfl) (by kernel_rfl) (fun _ _ _ h => h) rfl (fun W hW => by have hc := (hW.cell (p := ⟨W1.heap.size, 0, none⟩) (h4.lt.1) (fun x => x)).trans (c04); go_simp) ?_
              conv => arg 8; simp only [Act.put, List.setIfInBounds_toArray, List.set_cons_zero, List.set_cons_succ]
              refine rg_take 4 (d := (some 62)) (v := .int .i64 q) (by decide) rfl rfl (by kernel_rfl) (by kernel_rfl) (by kernel_rfl) (fun _ _ _ h => h) rfl (fun W => rfl) ?_
              conv => arg 8; simp only [Act.put, List.setIfInBounds_toArray, List.set_cons_zero, List.set_cons_succ]
              refine rg_take 5 (d := (some 63)) (v := .slice (some P) 129 C) (by decide) rfl rfl (by kernel_rfl) (by kernel_rfl) (by kernel_rfl) (fun _ _ _ h => h) rfl (fun W => rfl) ?_
              conv => arg 8; simp only [Act.put, List.setIfInBounds_toArray, List.set_cons_zero, List.set_cons_succ]
              refine rg_take 6 (d := (some 64)) (v := .pointer (some P)) (by decide) rfl rfl (by kernel_rfl) (by kernel_rfl) (by kernel_rfl) (fun _ _ _ h => h) rfl (fun W => by go_simp) ?_
              conv => arg 8; simp only [Act.put, List.setIfInBounds_toArray, List.set_cons_zero, List.set_cons_succ]
              refine rg_read 7 (d := (some 65)) (v := .int .u8 1) (by decide) (by kernel_rfl) (by kernel_rfl) rfl rfl (by kernel_rfl) (by kernel_rfl) (by kernel_rfl) (fun _ _ _ h => h) rfl (fun W hW => by have hc := (hW.cell (p := P) ((by have := d4.size; omega)) (fun x => x)).trans (hc4); go_simp) ?_
              conv => arg 8; simp only [Act.put, List.setIfInBounds_toArray, List.set_cons_zero, List.set_cons_succ]
              refine rg_take 8 (d := (some 66)) (v := .bool true) (by decide) rfl rfl (by kernel_rfl) (by kernel_rfl) (by kernel_rfl) (fun _ _ _ h => h) rfl (fun W => by go_simp) ?_
              conv => arg 8; simp only [Act.put, List.setIfInBounds_toArray, List.set_cons_zero, List.set_cons_succ]
              refine rg_take 9 (d := (some 67)) (v := .pointer (some ⟨w.heap.size, q * 3, none⟩)) (by decide) rfl rfl (by kernel_rfl) (by kernel_rfl) (by kernel_rfl) (fun _ _ _ h => h) rfl (fun W => by go_simp) ?_
              conv => arg 8; simp only [Act.put, List.setIfInBounds_toArray, List.set_cons_zero, List.set_cons_succ]
              refine rg_take 10 (d := (some 68)) (v := .pointer (some ⟨w.heap.size, q * 3 + 1, none⟩)) (by decide) rfl rfl (by kernel_rfl) (by kernel_rfl) (by kernel_rfl) (fun _ _ _ h => h) rfl (fun W => by go_simp) ?_
              conv => arg 8; simp only [Act.put, List.setIfInBounds_toArray, List.set_cons_zero, List.set_cons_succ]
              refine rg_lastS (G := fun _ => True) (w4.setCell ⟨w.heap.size, q * 3 + 1, none⟩ (.bool true)) (d := none) rfl rfl (by kernel_rfl) rfl (run_store_op (run_storeAt_one w4 w.heap.size (q * 3 + 1) 4 (.bool true) hs4 (h4.bz _) (by kernel_rfl) rfl rfl) rfl rfl) (by kernel_rfl) ?_
              conv => arg 8; simp only [Act.put, List.setIfInBounds_toArray, List.set_cons_zero, List.set_cons_succ]
              refine rg_done (by kernel_rfl) ?_
              have HF := Lib.hid hfin
              clear hfin h4 c04 hs4 hc4
              generalize w4.setCell ⟨w.heap.size, q * 3 + 1, none⟩ (.bool true) = w5 at HF ⊢
              go_wp2_with fail
              exact ⟨HF.out, meas_up hlt⟩
            · have hgr : ¬ goodRow img q = true := by simp [goodRow, HT.out.2, hz0, hz1]
              have HDD := Lib.hid (HNO.out hgr)
              obtain ⟨z, hz⟩ : ∃ z : Int, (b0.toNat : Int) = z := ⟨_, rfl⟩
              have e0 : ¬ z = 0 := fun e => hz0 (UInt8.toNat_inj.1 (by rw [e] at hz; simpa using hz))
              have e1 : ¬ z = 1 := fun e => hz1 (UInt8.toNat_inj.1 (show b0.toNat = 1 by omega))
              have e2 : z > 1 := by omega
              rw [bv, hz] at hcell3
              clear hgr hz0 hz1 hz
              go_wp2
              go_ret2
              rw [HDD.out]
              exact ⟨rfl, hk3⟩
        · rw [show decide (T = List.replicate 128 0) = false from decide_eq_false hTz]
          by_cases hz0 : b0 = 0
          · subst hz0
            have hgr : goodRow img q = true := by simp [goodRow, HT.out.2]
            have htt : decide (imgHead img q = 1) = false := by rw [HT.out.2]; rfl
            have hb : bv 0 = .int .u8 0 := rfl
            rw [hb] at hcell3
            have hE : ∀ w4, KpN w3 w4 → ∃ tv1 vv1 vs1, KpN w (w4.setCell ⟨w.heap.size, q * 3 + 1, none⟩ (.bool false)) ∧ RefM (w4.setCell ⟨w.heap.size, q * 3 + 1, none⟩ (.bool false)) (Iv w.heap.size (w4.setCell ⟨w.heap.size, q * 3 + 1, none⟩ (.bool false)).heap.size) W1.heap.size w.heap.size tv1 vv1 vs1 ⟨n, upd (loadI img n q).du q zsec, upd (loadI img n q).to q false, upd (loadI img n q).ca q [], false, -1⟩ ∧ (∀ j, q + 1 ≤ j → j < n → tv1 j = .slice none 0 0) ∧ RdB (w4.setCell ⟨w.heap.size, q * 3 + 1, none⟩ (.bool false)) (.slice (some (P.add 1)) 128 (C - 1)) T := fun w4 d4 => by
              have h4 := (HD3.out.wide (G := Iv w.heap.size w4.heap.size) (fun i _ hi => ⟨hi.1, by have := hi.2; have := d4.size; omega⟩)).keepN d4
              have h5 := h4.setBad hlt false (HTV.out q (Nat.le_refl _) hlt) rfl
              refine ⟨_, _, _, (hk3.thenN d4).setCell (p := ⟨w.heap.size, q * 3 + 1, none⟩) (.inr (Nat.le_refl _)) _, h5.wide (fun i _ hi => ⟨hi.1, by have := hi.2; simpa using this⟩), fun j h1 h2 => ?_, (HR3.out.keepN d4).keep (kp1_set (F := fun m => m = w.heap.size) rfl (q * 3 + 1) _) (fun m hm e => ?_)⟩
              · rw [upd_ne _ _ (by omega)]
                exact HTV.out j (by omega) h2
              · have hm : (P.add 1).block = m := Option.some.inj hm
                rw [add_block, HPB.out] at hm
                omega
            have HE := Lib.hid hE
            clear hb htt hE
            go_wp2_with fail
            refine rg_begin 11 (fun _ => False) (by kernel_rfl) (fun w4 d4 => ?_)
            have hfin := HE.out w4 d4
            have h4 := HD3.out.keepN d4
            have c04 : w4.cell? ⟨W1.heap.size, 0, none⟩ = some (.slice (some ⟨w.heap.size, 0, none⟩) n n) := h4.c0
            have hs4 : (w4.cell? ⟨w.heap.size, q * 3 + 1, none⟩).isSome = true := by rw [h4.t1 q hlt]; rfl
            have hc4 : w4.cell? P = some (.int .u8 0) := by rw [d4.cell hPlt3 (fun x => x)]; exact hcell3
            refine rg_take 0 (d := (some 58)) (v := .pointer (some ⟨W1.heap.size, 0, none⟩)) (by decide) rfl rfl (by kernel_rfl) (by kernel_rfl) (by kernel_rfl) (fun _ _ _ h => h) rfl (fun W => rfl) ?_
            conv => arg 8; simp only [Act.put, List.setIfInBounds_toArray, List.set_cons_zero, List.set_cons_succ]
            refine rg_take 1 (d := (some 59)) (v := .pointer (some ⟨W1.heap.size, 0, none⟩)) (by decide) rfl rfl (by kernel_rfl) (by kernel_rfl) (by kernel_rfl) (fun _ _ _ h => h) rfl (fun W => by go_simp) ?_
            conv => arg 8; simp only [Act.put, List.setIfInBounds_toArray, List.set_cons_zero, List.set_cons_succ]
            refine rg_take 2 (d := (some 60)) (v := .pointer (some ⟨W1.heap.size, 0, none⟩)) (by decide) rfl rfl (by kernel_rfl) (by kernel_rfl) (by kernel_rfl) (fun _ _ _ h => h) rfl (fun W => by go_simp) ?_
            conv => arg 8; simp only [Act.put, List.setIfInBounds_toArray, List.set_cons_zero, List.set_cons_succ]
            refine rg_read 3 (d := (some 61)) (v := .slice (some ⟨w.heap.size, 0, none⟩) n n) (by decide) (by kernel_rfl) (by kernel_rfl) rfl rfl (by kernel_rfl) (by kernel_rfl) (by kernel_rfl) (fun _ _ _ h => h) rfl (fun W hW => by have hc := (hW.cell (p := ⟨W1.heap.size, 0, none⟩) (h4.lt.1) (fun x => x)).trans (c04); go_simp) ?_
            conv => arg 8; simp only [Act.put, List.setIfInBounds_toArray, List.set_cons_zero, List.set_cons_succ]
            refine rg_take 4 (d := (some 62)) (v := .int .i64 q) (by decide) rfl rfl (by kernel_rfl) (by kernel_rfl) (by kernel_rfl) (fun _ _ _ h => h) rfl (fun W => rfl) ?_
            conv => arg 8; simp only [Act.put, List.setIfInBounds_toArray, List.set_cons_zero, List.set_cons_succ]
            refine rg_take 5 (d := (some 63)) (v := .slice (some P) 129 C) (by decide) rfl rfl (by kernel_rfl) (by kernel_rfl) (by kernel_rfl) (fun _ _ _ h => h) rfl (fun W => rfl) ?_
            conv => arg 8; simp only [Act.put, List.setIfInBounds_toArray, List.set_cons_zero, List.set_cons_succ]
            refine rg_take 6 (d := (some 64)) (v := .pointer (some P)) (by decide) rfl rfl (by kernel_rfl) (by kernel_rfl) (by kernel_rfl) (fun _ _ _ h => h) rfl (fun W => by go_simp) ?_
            conv => arg 8; simp only [Act.put, List.setIfInBounds_toArray, List.set_cons_zero, List.set_cons_succ]
            refine rg_read 7 (d := (some 65)) (v := .int .u8 0) (by decide) (by kernel_rfl) (by kernel_rfl) rfl rfl (by kernel_rfl) (by kernel_rfl) (by kernel_rfl) (fun _ _ _ h => h) rfl (fun W hW => by have hc := (hW.cell (p := P) ((by have := d4.size; omega)) (fun x => x)).trans (hc4); go_simp) ?_
            conv => arg 8; simp only [Act.put, List.setIfInBounds_toArray, List.set_cons_zero, List.set_cons_succ]
            refine rg_take 8 (d := (some 66)) (v := .bool false) (by decide) rfl rfl (by kernel_rfl) (by kernel_rfl) (by kernel_rfl) (fun _ _ _ h => h) rfl (fun W => by go_simp) ?_
            conv => arg 8; simp only [Act.put, List.setIfInBounds_toArray, List.set_cons_zero, List.set_cons_succ]
            refine rg_take 9 (d := (some 67)) (v := .pointer (some ⟨w.heap.size, q * 3, none⟩)) (by decide) rfl rfl (by kernel_rfl) (by kernel_rfl) (by kernel_rfl) (fun _ _ _ h => h) rfl (fun W => by go_simp) ?_
            conv => arg 8; simp only [Act.put, List.setIfInBounds_toArray, List.set_cons_zero, List.set_cons_succ]
            refine rg_take 10 (d := (some 68)) (v := .pointer (some ⟨w.heap.size, q * 3 + 1, none⟩)) (by decide) rfl rfl (by kernel_rfl) (by kernel_rfl) (by kernel_rfl) (fun _ _ _ h => h) rfl (fun W => by go_simp) ?_
            conv => arg 8; simp only [Act.put, List.setIfInBounds_toArray, List.set_cons_zero, List.set_cons_succ]
            refine rg_lastS (G := fun _ => True) (w4.setCell ⟨w.heap.size, q * 3 + 1, none⟩ (.bool false)) (d := none) rfl rfl (by kernel_rfl) rfl (run_store_op (run_storeAt_one w4 w.heap.size (q * 3 + 1) 4 (.bool false) hs4 (h4.bz _) (by kernel_rfl) rfl rfl) rfl rfl) (by kernel_rfl) ?_
            conv => arg 8; simp only [Act.put, List.setIfInBounds_toArray, List.set_cons_zero, List.set_cons_succ]
            refine rg_done (by kernel_rfl) ?_
            have HF := Lib.hid hfin
            clear hfin h4 c04 hs4 hc4
            generalize w4.setCell ⟨w.heap.size, q * 3 + 1, none⟩ (.bool false) = w5 at HF ⊢
            obtain ⟨tv5, vv5, vs5, k5, h5, htv5, hr5⟩ := HF.out
            have H5 := Lib.hid (And.intro h5 (And.intro htv5 hr5))
            clear HF HE h5 htv5 hr5
            go_wp2_with fail
            refine rg_begin 10 (fun _ => False) (by kernel_rfl) (fun w6 d6 => ?_)
            have h6 := (H5.out.1.wide (G := Iv w.heap.size w6.heap.size) (fun i _ hi => ⟨hi.1, by have := hi.2; have := d6.size; omega⟩)).keepN d6
            have c06 : w6.cell? ⟨W1.heap.size, 0, none⟩ = some (.slice (some ⟨w.heap.size, 0, none⟩) n n) := h6.c0
            refine rg_take 0 (d := (some 71)) (v := .pointer (some ⟨W1.heap.size, 0, none⟩)) (by decide) rfl rfl (by kernel_rfl) (by kernel_rfl) (by kernel_rfl) (fun _ _ _ h => h) rfl (fun W => rfl) ?_
            conv => arg 8; simp only [Act.put, List.setIfInBounds_toArray, List.set_cons_zero, List.set_cons_succ]
            refine rg_take 1 (d := (some 72)) (v := .pointer (some ⟨W1.heap.size, 0, none⟩)) (by decide) rfl rfl (by kernel_rfl) (by kernel_rfl) (by kernel_rfl) (fun _ _ _ h => h) rfl (fun W => by go_simp) ?_
            conv => arg 8; simp only [Act.put, List.setIfInBounds_toArray, List.set_cons_zero, List.set_cons_succ]
            refine rg_take 2 (d := (some 73)) (v := .pointer (some ⟨W1.heap.size, 0, none⟩)) (by decide) rfl rfl (by kernel_rfl) (by kernel_rfl) (by kernel_rfl) (fun _ _ _ h => h) rfl (fun W => by go_simp) ?_
            conv => arg 8; simp only [Act.put, List.setIfInBounds_toArray, List.set_cons_zero, List.set_cons_succ]
            refine rg_read 3 (d := (some 74)) (v := .slice (some ⟨w.heap.size, 0, none⟩) n n) (by decide) (by kernel_rfl) (by kernel_rfl) rfl rfl (by kernel_rfl) (by kernel_rfl) (by kernel_rfl) (fun _ _ _ h => h) rfl (fun W hW => by have hc := (hW.cell (p := ⟨W1.heap.size, 0, none⟩) (h6.lt.1) (fun x => x)).trans (c06); go_simp) ?_
            conv => arg 8; simp only [Act.put, List.setIfInBounds_toArray, List.set_cons_zero, List.set_cons_succ]
            refine rg_take 4 (d := (some 75)) (v := .int .i64 q) (by decide) rfl rfl (by kernel_rfl) (by kernel_rfl) (by kernel_rfl) (fun _ _ _ h => h) rfl (fun W => rfl) ?_
            conv => arg 8; simp only [Act.put, List.setIfInBounds_toArray, List.set_cons_zero, List.set_cons_succ]
            refine rg_take 5 (d := (some 76)) (v := .slice (some P) 129 C) (by decide) rfl rfl (by kernel_rfl) (by kernel_rfl) (by kernel_rfl) (fun _ _ _ h => h) rfl (fun W => rfl) ?_
            conv => arg 8; simp only [Act.put, List.setIfInBounds_toArray, List.set_cons_zero, List.set_cons_succ]
            refine rg_take 6 (d := (some 77)) (v := .slice (some (P.add 1)) 128 (C - 1)) (by decide) rfl rfl (by kernel_rfl) (by kernel_rfl) (by kernel_rfl) (fun _ _ _ h => h) rfl (fun W => by go_simp) ?_
            conv => arg 8; simp only [Act.put, List.setIfInBounds_toArray, List.set_cons_zero, List.set_cons_succ]
            refine rg_call 7 (d := (some 78)) (by kernel_rfl) (copied_r (H5.out.2.2.keepN d6) (by rw [HTL.out]; omega)) rfl rfl (by kernel_rfl) rfl rfl ?_
            rintro e w7 ⟨vf, rfl, of, kf⟩
            refine ⟨_, rfl, kf.mono (fun _ _ x => x.elim), ?_⟩
            conv => arg 8; simp only [Act.put, List.setIfInBounds_toArray, List.set_cons_zero, List.set_cons_succ]
            have h7 := h6.keepN kf
            have hset := h6.setText (i := q) hlt kf of HTL.out (upd_same _ _ _) (upd_same _ _ _)
            obtain ⟨Af, cf, rfl, -⟩ := of.readsB.form
            have hs7 : (w7.cell? ⟨w.heap.size, q * 3, none⟩).isSome = true := by rw [h7.t0 q hlt]; rfl
            refine rg_take 8 (d := (some 79)) (v := .pointer (some ⟨w.heap.size, q * 3, none⟩)) (by decide) rfl rfl (by kernel_rfl) (by kernel_rfl) (by kernel_rfl) (fun _ _ _ h => h) rfl (fun W => by go_simp) ?_
            conv => arg 8; simp only [Act.put, List.setIfInBounds_toArray, List.set_cons_zero, List.set_cons_succ]
            refine rg_take 9 (d := (some 80)) (v := .pointer (some ⟨w.heap.size, q * 3, none⟩)) (by decide) rfl rfl (by kernel_rfl) (by kernel_rfl) (by kernel_rfl) (fun _ _ _ h => h) rfl (fun W => by go_simp) ?_
            conv => arg 8; simp only [Act.put, List.setIfInBounds_toArray, List.set_cons_zero, List.set_cons_succ]
            refine rg_lastS (G := fun _ => True) (w7.setCell ⟨w.heap.size, q * 3, none⟩ (.slice Af T.length cf)) (d := none) rfl rfl (by kernel_rfl) rfl (run_store_op (run_storeAt_one w7 w.heap.size (q * 3) 28 (.slice Af T.length cf) hs7 (h7.bz _) (by kernel_rfl) rfl rfl) rfl rfl) (by kernel_rfl) ?_
            conv => arg 8; simp only [Act.put, List.setIfInBounds_toArray, List.set_cons_zero, List.set_cons_succ]
            refine rg_done (by kernel_rfl) ?_
            have hfin : LdRel w img n W1.heap.size w.heap.size (.int .i64 ((q : Int) + 1)) (w7.setCell ⟨w.heap.size, q * 3, none⟩ (.slice Af T.length cf)) := by
              have hc := hset.cong (d' := loadI img n (q + 1)) rfl (fun i _ => by
                have hs := loadI_step img n q i T false HT.out.1 (by rw [HT.out.2]; rfl)
                exact ⟨hs.1.trans (upd_upd _ _ _ _ _).symm, hs.2.1.trans (upd_upd _ _ _ _ _).symm, hs.2.2.trans (upd_upd _ _ _ _ _).symm⟩) ⟨rfl, rfl⟩
              have hz6 := d6.size
              have hz7 := kf.size
              have hz5 := k5.size
              refine ⟨q + 1, _, _, _, by omega, by go_num, fun j hj => ?_, fun j h1 h2 => ?_, hc.wide (fun i hi hf => ?_), ((k5.thenN d6).thenN kf).setCell (p := ⟨w.heap.size, q * 3, none⟩) (.inr (Nat.le_refl _)) _⟩
              · by_cases hjq : j = q
                · rw [hjq]; exact hgr
                · exact HGOOD.out j (by omega)
              · rw [upd_ne _ _ (by omega)]
                exact H5.out.2.1 j h1 h2
              · rcases hf with hf | hf
                · exact ⟨hf.1, hi⟩
                · exact ⟨by have := hf.1; omega, hi⟩
            have HF := Lib.hid hfin
            clear hfin hset h6 h7 c06 hs7 of
            generalize w7.setCell ⟨w.heap.size, q * 3, none⟩ (.slice Af T.length cf) = w8 at HF ⊢
            go_wp2_with fail
            exact ⟨HF.out, meas_up hlt⟩
          · by_cases hz1 : b0 = 1
            · subst hz1
              have hgr : ¬ goodRow img q = true := by simp [goodRow, HT.out.2, HT.out.1, hTz]
              have HDD := Lib.hid (HNO.out hgr)
              have hb : bv 1 = .int .u8 1 := rfl
              rw [hb] at hcell3
              clear hgr hb hz0
              go_wp2
              go_ret2
              rw [HDD.out]
              exact ⟨rfl, hk3⟩
            · have hgr : ¬ goodRow img q = true := by simp [goodRow, HT.out.2, hz0, hz1]
              have HDD := Lib.hid (HNO.out hgr)
              obtain ⟨z, hz⟩ : ∃ z : Int, (b0.toNat : Int) = z := ⟨_, rfl⟩
              have e0 : ¬ z = 0 := fun e => hz0 (UInt8.toNat_inj.1 (by rw [e] at hz; simpa using hz))
              have e1 : ¬ z = 1 := fun e => hz1 (UInt8.toNat_inj.1 (show b0.toNat = 1 by omega))
              have e2 : z > 1 := by omega
              rw [bv, hz] at hcell3
              clear hgr hz0 hz1 hz
              go_wp2
              go_ret2
              rw [HDD.out]
              exact ⟨rfl, hk3⟩
      · have hqn' : q = n := by omega
        subst hqn'
        have hD : loadD img = some (loadI img q q) := by
          unfold loadD
          rw [HL.out.2.1, HL.out.2.2.1]
          exact if_pos ⟨rfl, h1, h2, hgood⟩
        have hfin : RLoadX w (loadD img) (.returned (.tuple #[.pointer (some ⟨W1.heap.size, 0, none⟩), .int .i64 0])) wr := by
          rw [hD]
          exact ⟨_, rfl, ⟨_, _, _, _, hd⟩, hk⟩
        have HF := Lib.hid hfin
        clear hfin hD hd
        go_wp2
        go_ret2
        exact HF.out
end Go.Proofs.Ythkbgbbejgpeaaa
