/- The document's Find; isBlock. -/
import Derived.Test.YteokkpmndfekoaaBF
namespace Go.Proofs.Yteokkpmndfekoaa
open Go Go.RowKit
set_option maxRecDepth 100000

def PlaceP (l : List Blk) (k : Nat) (w : World) (e : Ending) (w' : World) : Prop :=
  (e = .returned (.int .i64 (-1)) ∧ findB l k = none ∨ ∃ q : Nat, ∃ h : q < l.length, e = .returned (.int .i64 (q : Int)) ∧ findB l k = some l[q]) ∧ KpN w w'
set_option maxHeartbeats 3200000 in
theorem place_c {w : World} {bv pv : Value} {b : Bdl} {k : Nat} (h : RdBd w bv pv b) (hsz : bdSize b ≤ 10000000) (hk : U64 k) : Calls Try.prog 40 #[bdV b bv pv, n64 k] w (PlaceP b.bl k w) := by
  obtain ⟨hbl, hpl, hda⟩ := bdSize_len b
  obtain ⟨hok, hb, hp⟩ := h
  obtain ⟨bA, bc, rfl, hbc⟩ := hb.form
  obtain ⟨pA, pc, rfl, -⟩ := hp.form
  obtain ⟨fl, e0, e1, e2, e3, e4, e5, ti, sq, li, bl, pl⟩ := b
  dsimp only at hb hp hbc hbl hpl hda ⊢
  obtain ⟨n, hn⟩ : ∃ n, bl.length = n := ⟨_, rfl⟩
  obtain ⟨m, hm⟩ : ∃ m, pl.length = m := ⟨_, rfl⟩
  rw [hn] at hb hbc hbl ⊢
  rw [hm]
  have hnb : n ≤ 2500000 := by omega
  have kb : KpN w (w.alloc (.cells #[n64 fl, n64 e0, n64 e1, n64 e2, n64 e3, n64 e4, n64 e5, n64 ti, n64 sq, n64 li, .slice bA n bc, .slice pA m pc] 29)) := (Kp.refl _ w).alloc _
  have hbox := CellsAt.new w [n64 fl, n64 e0, n64 e1, n64 e2, n64 e3, n64 e4, n64 e5, n64 ti, n64 sq, n64 li, .slice bA n bc, .slice pA m pc] 29
  have hz1 : (w.alloc (.cells #[n64 fl, n64 e0, n64 e1, n64 e2, n64 e3, n64 e4, n64 e5, n64 ti, n64 sq, n64 li, .slice bA n bc, .slice pA m pc] 29)).heap.size = w.heap.size + 1 := by simp
  obtain ⟨w1, hw1⟩ : ∃ w1, w.alloc (.cells #[n64 fl, n64 e0, n64 e1, n64 e2, n64 e3, n64 e4, n64 e5, n64 ti, n64 sq, n64 li, .slice bA n bc, .slice pA m pc] 29) = w1 := ⟨_, rfl⟩
  rw [hw1] at kb hz1 hbox
  have HW1 := Lib.hid hw1
  have HB := Lib.hid (SlAt.keep hb kb (fun x y => x.keep y))
  have HN := Lib.hid (And.intro hn hm)
  have HBX := Lib.hid (And.intro hbox hz1)
  clear hbox hw1 hb hp hn hm hz1 hda hsz hok
  go_enter Try.func40, Try.ntmps40
  go_wp2_with fail
  rw [HW1.out]
  go_loopw [5] (fun i wr => ∃ q : Nat, q ≤ n ∧ i = .int .i64 q ∧ (∀ j (hj : j < bl.length), j < q → bl[j].ty ≠ k) ∧ KpN w1 wr) (fun i _ => n - (intOf i).toNat)
  case atStart => exact ⟨0, Nat.zero_le _, rfl, fun j _ hj => by omega, Kp.refl _ _⟩
  case round =>
    obtain ⟨q, hq, rfl, hno, hkr⟩ := hrel
    have b10 : wr.cell? ⟨w.heap.size, 10, none⟩ = some (.slice bA n bc) := (HBX.out.1.keep (by have := HBX.out.2; omega) hkr (fun x => x)).at_ 10 rfl
    by_cases hlt : q < n
    · have hql : q < bl.length := by rw [HN.out.1]; exact hlt
      obtain ⟨ad, cs, rfl, -, hrow0, ⟨⟨dw, rfl, hdw⟩, hxo⟩⟩ := HB.out.row q hql
      have hrow := hrow0.keepN hkr
      have c0 := hrow.c0
      have hyes : bl[q].ty = k → findB bl k = some bl[q] := fun e => find_at bl k q hql (fun j hj => hno j (by omega) hj) e
      have hgo : bl[q].ty ≠ k → ∀ j (hj : j < bl.length), j < q + 1 → bl[j].ty ≠ k := fun e j hj hjq => by
        by_cases hje : j = q
        · subst hje; exact e
        · exact hno j hj (by omega)
      have HNO := Lib.hid (And.intro hno (And.intro hyes hgo))
      obtain ⟨xt, hxt⟩ : ∃ x, bl[q].ty = x := ⟨_, rfl⟩
      rw [hxt] at c0
      have HXT := Lib.hid hxt
      clear hrow hrow0 hdw hno hyes hgo hxo hxt
      by_cases hkt : xt = k
      · have hke : ((xt : Int) == (k : Int)) = true := by simp [hkt]
        have hfin : PlaceP bl k w (.returned (.int .i64 (q : Int))) wr := ⟨.inr ⟨q, hql, rfl, HNO.out.2.1 (by rw [HXT.out]; exact hkt)⟩, kb.thenN hkr⟩
        have HF := Lib.hid hfin
        clear hfin
        subst hkt
        go_wp2_with fail
        go_ret
        exact HF.out
      · have hke : ((xt : Int) == (k : Int)) = false := by simp; omega
        go_wp2_with fail
        go_roundw
        case rel => exact ⟨q + 1, by omega, by go_num, HNO.out.2.2 (by rw [HXT.out]; exact hkt), hkr⟩
        case measure => exact meas_up hlt
    · have hqn : n = q := by omega
      subst hqn
      have hfin : PlaceP bl k w (.returned (.int .i64 (-1))) wr := ⟨.inl ⟨rfl, find_none bl k (fun j hj => hno j hj (by rw [← HN.out.1]; exact hj))⟩, kb.thenN hkr⟩
      have HF := Lib.hid hfin
      clear hfin hno
      go_wp2_with fail
      go_ret
      exact HF.out
def RFindP (b : Bdl) (k : Nat) (w : World) (e : Ending) (w' : World) : Prop := match findB b.bl k with
  | some x => ∃ u, e = .returned (.tuple #[.agg #[n64 x.ty, n64 x.nu, n64 x.fl, u], .bool true]) ∧ RdB w' u x.da ∧ KpN w w'
  | none => e = .returned (.tuple #[.agg #[n64 0, n64 0, n64 0, .slice none 0 0], .bool false]) ∧ KpN w w'
set_option maxHeartbeats 3200000 in
theorem rfind_c {w : World} {bv pv : Value} {b : Bdl} {k : Nat} (h : RdBd w bv pv b) (hsz : bdSize b ≤ 10000000) (hk : U64 k) : Calls Try.prog 15 #[bdV b bv pv, n64 k] w (RFindP b k w) := by
  obtain ⟨hbl, hpl, hda⟩ := bdSize_len b
  have HH := Lib.hid h
  obtain ⟨hok, hb, hp⟩ := h
  obtain ⟨bA, bc, rfl, hbc⟩ := hb.form
  obtain ⟨pA, pc, rfl, -⟩ := hp.form
  have HPC := Lib.hid (fun (W : World) (kW : KpN w W) => place_c (HH.out.keepN kW) hsz hk)
  obtain ⟨fl, e0, e1, e2, e3, e4, e5, ti, sq, li, bl, pl⟩ := b
  dsimp only at hb hp hbc hbl hpl hda HPC HH ⊢
  obtain ⟨n, hn⟩ : ∃ n, bl.length = n := ⟨_, rfl⟩
  obtain ⟨m, hm⟩ : ∃ m, pl.length = m := ⟨_, rfl⟩
  rw [hn] at hb hbc hbl HPC ⊢
  rw [hm] at HPC ⊢
  have kb : KpN w ((w.alloc (.cells #[n64 fl, n64 e0, n64 e1, n64 e2, n64 e3, n64 e4, n64 e5, n64 ti, n64 sq, n64 li, .slice bA n bc, .slice pA m pc] 29)).alloc (.cells #[.int .u64 0, .int .u64 0, .int .u64 0, .slice none 0 0] 40)) := ((Kp.refl _ w).alloc _).alloc _
  have hz1 : ((w.alloc (.cells #[n64 fl, n64 e0, n64 e1, n64 e2, n64 e3, n64 e4, n64 e5, n64 ti, n64 sq, n64 li, .slice bA n bc, .slice pA m pc] 29)).alloc (.cells #[.int .u64 0, .int .u64 0, .int .u64 0, .slice none 0 0] 40)).heap.size = w.heap.size + 2 := by simp
  have hbox : CellsAt ((w.alloc (.cells #[n64 fl, n64 e0, n64 e1, n64 e2, n64 e3, n64 e4, n64 e5, n64 ti, n64 sq, n64 li, .slice bA n bc, .slice pA m pc] 29)).alloc (.cells #[.int .u64 0, .int .u64 0, .int .u64 0, .slice none 0 0] 40)) w.heap.size [n64 fl, n64 e0, n64 e1, n64 e2, n64 e3, n64 e4, n64 e5, n64 ti, n64 sq, n64 li, .slice bA n bc, .slice pA m pc] := (CellsAt.new w [n64 fl, n64 e0, n64 e1, n64 e2, n64 e3, n64 e4, n64 e5, n64 ti, n64 sq, n64 li, .slice bA n bc, .slice pA m pc] _).keep (by simp) ((Kp.refl (fun _ => False) _).alloc _) (fun x => x)
  have hres : CellsAt ((w.alloc (.cells #[n64 fl, n64 e0, n64 e1, n64 e2, n64 e3, n64 e4, n64 e5, n64 ti, n64 sq, n64 li, .slice bA n bc, .slice pA m pc] 29)).alloc (.cells #[.int .u64 0, .int .u64 0, .int .u64 0, .slice none 0 0] 40)) (w.heap.size + 1) [.int .u64 0, .int .u64 0, .int .u64 0, .slice none 0 0] := by
    have := CellsAt.new (w.alloc (.cells #[n64 fl, n64 e0, n64 e1, n64 e2, n64 e3, n64 e4, n64 e5, n64 ti, n64 sq, n64 li, .slice bA n bc, .slice pA m pc] 29)) [.int .u64 0, .int .u64 0, .int .u64 0, .slice none 0 0] 40
    rwa [show (w.alloc (.cells #[n64 fl, n64 e0, n64 e1, n64 e2, n64 e3, n64 e4, n64 e5, n64 ti, n64 sq, n64 li, .slice bA n bc, .slice pA m pc] 29)).heap.size = w.heap.size + 1 by simp] at this
  have hld := run_loadAt_rowat (P := Try.prog) hbox.1 Try.underlying29 rfl (by kernel_rfl)
  obtain ⟨w1, hw1⟩ : ∃ w1, ((w.alloc (.cells #[n64 fl, n64 e0, n64 e1, n64 e2, n64 e3, n64 e4, n64 e5, n64 ti, n64 sq, n64 li, .slice bA n bc, .slice pA m pc] 29)).alloc (.cells #[.int .u64 0, .int .u64 0, .int .u64 0, .slice none 0 0] 40)) = w1 := ⟨_, rfl⟩
  rw [hw1] at kb hz1 hbox hres
  have HW1 := Lib.hid hw1
  have HB := Lib.hid hb
  have HN := Lib.hid (And.intro hn hm)
  have HZ := Lib.hid hz1
  have HRS := Lib.hid (And.intro hres hbox)
  clear hbox hres hw1 hb hp hn hm hz1 hda hsz hok HH
  go_enter Try.func15, Try.ntmps15
  go_wp2_with ((with_reducible show wpList _ _ _ (Oper.mk _ (Op.load 29 _) _ _ _ _ :: _) _ _); refine wpl_val rfl (run_load_opv hld rfl) ?_)
  clear hld
  rw [HW1.out]
  refine (HPC.out w1 kb).mono ?_
  rintro e w2 ⟨he, k2⟩
  have hz2 := k2.size
  have krs := HRS.out.1.keep (by have := HZ.out; omega) k2 (fun x => x)
  have kbx := HRS.out.2.keep (by have := HZ.out; omega) k2 (fun x => x)
  have b10 : w2.cell? ⟨w.heap.size, 10, none⟩ = some (.slice bA n bc) := kbx.at_ 10 rfl
  rcases he with ⟨rfl, hf⟩ | ⟨q, hq, rfl, hf⟩
  · have k7 := Kp.setCells (w.heap.size + 1) [.int .u64 0, .int .u64 0, .int .u64 0, .slice none 0 0] 0 w2
    have gr7 := krs.put (ds := [.int .u64 0, .int .u64 0, .int .u64 0, .slice none 0 0]) rfl
    have hst := run_storeAt_mid (P := Try.prog) w2 (w.heap.size + 1) 0 40 #[.int .u64 0, .int .u64 0, .int .u64 0, .slice none 0 0] (krs.there _ (Nat.le_refl _)) (by kernel_rfl) (by kernel_rfl)
    have hfin : RFindP ⟨fl, e0, e1, e2, e3, e4, e5, ti, sq, li, bl, pl⟩ k w (.returned (.tuple #[.agg ([.int .u64 0, .int .u64 0, .int .u64 0, .slice none 0 0]).toArray, .bool false])) (w2.setCells (w.heap.size + 1) 0 [.int .u64 0, .int .u64 0, .int .u64 0, .slice none 0 0]) := by
      unfold RFindP
      rw [show findB bl k = none from hf]
      exact ⟨rfl, (kb.thenN k2).fresh k7 (fun i e => by have := HZ.out; omega)⟩
    have HF := Lib.hid hfin
    have HL := Lib.hid (And.intro hst gr7)
    clear hfin hst gr7 k7 krs kbx hf
    go_wp2_with ((with_reducible show wpList _ _ _ (Oper.mk _ (Op.store 40 _ _) _ _ _ _ :: _) _ _); refine wpl_skip rfl (run_store_op HL.out.1 rfl rfl) ?_)
    (try simp only [Exit.inBlock, Exit.then])
    refine bodyPost_ret (results_cell_tmp_at rfl _ _ rfl HL.out.2.1 Try.underlying40 rfl (by kernel_rfl)) rfl ?_
    exact HF.out
  · obtain ⟨ad, cs, rfl, -, hrow0, ⟨⟨dw, rfl, hdw⟩, hxo⟩⟩ := HB.out.row q hq
    have hqn : q < n := by rw [← HN.out.1]; exact hq
    have hrow := (hrow0.keepN kb).keepN k2
    have hdr := (hdw.keepN kb).keepN k2
    obtain ⟨x, hx⟩ : ∃ x, bl[q] = x := ⟨_, rfl⟩
    rw [hx] at hrow hdr hf hdw
    obtain ⟨xt, xn, xf, xd⟩ := x
    dsimp only at hrow hdr hdw
    have k7 := Kp.setCells (w.heap.size + 1) [n64 xt, n64 xn, n64 xf, dw] 0 w2
    obtain ⟨dA, dc, rfl, -⟩ := hdr.form
    have k7' := Kp.setCells (w.heap.size + 1) [n64 xt, n64 xn, n64 xf, .slice dA xd.length dc] 0 w2
    have gr7 := krs.put (ds := [n64 xt, n64 xn, n64 xf, .slice dA xd.length dc]) rfl
    have hst := run_storeAt_mid (P := Try.prog) w2 (w.heap.size + 1) 0 40 #[n64 xt, n64 xn, n64 xf, .slice dA xd.length dc] (krs.there _ (Nat.le_refl _)) (by kernel_rfl) (by kernel_rfl)
    have hld4 := run_loadAt_rowat (P := Try.prog) hrow Try.underlying40 rfl (by kernel_rfl)
    have hfin : RFindP ⟨fl, e0, e1, e2, e3, e4, e5, ti, sq, li, bl, pl⟩ k w (.returned (.tuple #[.agg #[n64 xt, n64 xn, n64 xf, .slice dA xd.length dc], .bool true])) (w2.setCells (w.heap.size + 1) 0 [n64 xt, n64 xn, n64 xf, .slice dA xd.length dc]) := by
      unfold RFindP
      rw [show findB bl k = some ⟨xt, xn, xf, xd⟩ from hf]
      have kk := (kb.thenN k2).fresh k7' (fun i e => by have := HZ.out; omega)
      exact ⟨_, rfl, hdw.keepN kk, kk⟩
    have HF := Lib.hid hfin
    have HL := Lib.hid (And.intro hst (And.intro gr7 hld4))
    clear hfin hst gr7 k7 k7' krs kbx hf hrow hrow0 hdr hdw hx hld4
    go_wp2_with (first
      | ((with_reducible show wpList _ _ _ (Oper.mk _ (Op.load 40 _) _ _ _ _ :: _) _ _); refine wpl_val rfl (run_load_opv HL.out.2.2 rfl) ?_)
      | ((with_reducible show wpList _ _ _ (Oper.mk _ (Op.store 40 _ _) _ _ _ _ :: _) _ _); refine wpl_skip rfl (run_store_op HL.out.1 rfl rfl) ?_))
    (try simp only [Exit.inBlock, Exit.then])
    refine bodyPost_ret (results_cell_tmp_at rfl _ _ rfl HL.out.2.1.1 Try.underlying40 rfl (by kernel_rfl)) rfl ?_
    exact HF.out
theorem toStr_eq {w : World} {u v : Value} {xs : List UInt8} (hu : RdB w u xs) (hv : RdB w v xs) : (convert 27 9 u).run Try.prog w = .ok (.string (bs xs)) w ∧ (convert 27 9 v).run Try.prog w = .ok (.string (bs xs)) w :=
  ⟨run_toStr w Try.underlying27 Try.underlying5 Try.underlying9 hu, run_toStr w Try.underlying27 Try.underlying5 Try.underlying9 hv⟩
set_option maxHeartbeats 3200000 in
theorem isBlock_c {w : World} {u v : Value} {t n f : Nat} {xs : List UInt8} (hu : RdB w u xs) (hv : RdB w v xs) (hl : xs.length ≤ 100000000) :
    Calls Try.prog 16 #[.agg #[n64 t, n64 n, n64 f, u], .agg #[n64 t, n64 n, n64 f, v]] w (TrueP w) := by
  obtain ⟨uA, uc, rfl, -⟩ := hu.form
  obtain ⟨vA, vc, rfl, -⟩ := hv.form
  obtain ⟨L, hL⟩ : ∃ L, xs.length = L := ⟨_, rfl⟩
  rw [hL] at hu hv ⊢
  have kb : KpN w ((w.alloc (.cells #[n64 t, n64 n, n64 f, .slice uA L uc] 37)).alloc (.cells #[n64 t, n64 n, n64 f, .slice vA L vc] 40)) := ((Kp.refl _ w).alloc _).alloc _
  obtain ⟨e1, e2⟩ := toStr_eq (hu.keepN kb) (hv.keepN kb)
  have hs : (bs xs).size ≤ 1000000000000 := by rw [bs_size]; omega
  clear hu hv hL
  go_enter Try.func16, Try.ntmps16
  go_wp2_with (first | (refine conv_opg e1 rfl rfl ?_) | (refine conv_opg e2 rfl rfl ?_) | fail)
  go_ret
  exact ⟨by first | rfl | simp, kb⟩
end Go.Proofs.Yteokkpmndfekoaa
