/- bundle.Find, and the document's. -/
import Derived.Test.YteokkpmndfekoaaBE
namespace Go.Proofs.Yteokkpmndfekoaa
open Go Go.RowKit
set_option maxRecDepth 100000

def findB (l : List Blk) (k : Nat) : Option Blk := l.find? fun x => decide (x.ty = k)
theorem find_at : ∀ (l : List Blk) (k q : Nat) (hq : q < l.length), (∀ j (h : j < q), (l[j]'(by omega)).ty ≠ k) → l[q].ty = k → findB l k = some l[q]
  | [], _, _, hq, _, _ => by simp at hq
  | a :: r, k, 0, _, _, h => by
    have h : a.ty = k := h
    simp [findB, h]
  | a :: r, k, q + 1, hq, h0, h => by
    have h1 : a.ty ≠ k := h0 0 (by omega)
    have := find_at r k q (by simpa using hq) (fun j hj => h0 (j + 1) (by omega)) h
    unfold findB at this ⊢
    rw [List.find?_cons_of_neg (by simpa using h1), this]
    rfl
theorem find_none (l : List Blk) (k : Nat) (h : ∀ j (h : j < l.length), l[j].ty ≠ k) : findB l k = none := by
  unfold findB
  rw [List.find?_eq_none]
  intro x hx
  obtain ⟨j, hj, rfl⟩ := List.mem_iff_getElem.1 hx
  simpa using h j hj
theorem results_cell_tmp_at {P : Program} {fn : Func} {p u : Tmp} {ty : TypeId} (h : fn.results = #[.cell p ty, .tmp u]) (tmps : Array Value) (w : World) {ad : Addr} {cs : List Value} {d : TypeDesc}
    (hp : tmps.getD p undef = .pointer (some ad)) (hrow : RowAt w ad cs) (hu : P.underlying ty = some d) (hd : d.isRow = true) (hi : (P.info? ty).map (·.size) = some cs.length) :
    (results fn tmps).run P w = .ok (.tuple #[.agg cs.toArray, tmps.getD u undef]) w := by
  rw [results_cell_tmp h, hp]
  simp [asAddr, run_loadVar_rowat hrow hu hd hi]
def FindP (b : Bdl) (k : Nat) (w : World) (e : Ending) (w' : World) : Prop := match findB b.bl k with
  | some x => ∃ u, e = .returned (.tuple #[.agg #[n64 x.ty, n64 x.nu, n64 x.fl, u], .bool true]) ∧ OwB w' 5 (Iv w.heap.size w'.heap.size) u x.da ∧ KpN w w'
  | none => e = .returned (.tuple #[.agg #[n64 0, n64 0, n64 0, .slice none 0 0], .bool false]) ∧ KpN w w'
set_option maxHeartbeats 6400000 in
theorem find_c {w : World} {bv pv : Value} {b : Bdl} {k : Nat} (h : RdBd w bv pv b) (hsz : bdSize b ≤ 10000000) (hk : U64 k) : Calls Try.prog 14 #[bdV b bv pv, n64 k] w (FindP b k w) := by
  obtain ⟨hbl, hpl, hda⟩ := bdSize_len b
  obtain ⟨hok, hb, hp⟩ := h
  obtain ⟨bA, bc, rfl, hbc⟩ := hb.form
  obtain ⟨pA, pc, rfl, -⟩ := hp.form
  obtain ⟨fl, e0, e1, e2, e3, e4, e5, ti, sq, li, bl, pl⟩ := b
  dsimp only at hb hp hbc hbl hpl hda ⊢
  obtain ⟨n, hn⟩ : ∃ n, bl.length = n := ⟨_, rfl⟩
  obtain ⟨m, hm⟩ : ∃ m, pl.length = m := ⟨_, rfl⟩
  rw [hn] at hb hbc hbl ⊢
  rw [hm]
  have hnb : n ≤ 2500000 := by omega
  have kb : KpN w ((w.alloc (.cells #[n64 fl, n64 e0, n64 e1, n64 e2, n64 e3, n64 e4, n64 e5, n64 ti, n64 sq, n64 li, .slice bA n bc, .slice pA m pc] 34)).alloc (.cells #[.int .u64 0, .int .u64 0, .int .u64 0, .slice none 0 0] 37)) := ((Kp.refl _ w).alloc _).alloc _
  have hz1 : ((w.alloc (.cells #[n64 fl, n64 e0, n64 e1, n64 e2, n64 e3, n64 e4, n64 e5, n64 ti, n64 sq, n64 li, .slice bA n bc, .slice pA m pc] 34)).alloc (.cells #[.int .u64 0, .int .u64 0, .int .u64 0, .slice none 0 0] 37)).heap.size = w.heap.size + 2 := by simp
  have hbox : CellsAt ((w.alloc (.cells #[n64 fl, n64 e0, n64 e1, n64 e2, n64 e3, n64 e4, n64 e5, n64 ti, n64 sq, n64 li, .slice bA n bc, .slice pA m pc] 34)).alloc (.cells #[.int .u64 0, .int .u64 0, .int .u64 0, .slice none 0 0] 37)) w.heap.size [n64 fl, n64 e0, n64 e1, n64 e2, n64 e3, n64 e4, n64 e5, n64 ti, n64 sq, n64 li, .slice bA n bc, .slice pA m pc] := (CellsAt.new w [n64 fl, n64 e0, n64 e1, n64 e2, n64 e3, n64 e4, n64 e5, n64 ti, n64 sq, n64 li, .slice bA n bc, .slice pA m pc] _).keep (by simp) ((Kp.refl (fun _ => False) _).alloc _) (fun x => x)
  have hres : CellsAt ((w.alloc (.cells #[n64 fl, n64 e0, n64 e1, n64 e2, n64 e3, n64 e4, n64 e5, n64 ti, n64 sq, n64 li, .slice bA n bc, .slice pA m pc] 34)).alloc (.cells #[.int .u64 0, .int .u64 0, .int .u64 0, .slice none 0 0] 37)) (w.heap.size + 1) [.int .u64 0, .int .u64 0, .int .u64 0, .slice none 0 0] := by
    have := CellsAt.new (w.alloc (.cells #[n64 fl, n64 e0, n64 e1, n64 e2, n64 e3, n64 e4, n64 e5, n64 ti, n64 sq, n64 li, .slice bA n bc, .slice pA m pc] 34)) [.int .u64 0, .int .u64 0, .int .u64 0, .slice none 0 0] 37
    rwa [show (w.alloc (.cells #[n64 fl, n64 e0, n64 e1, n64 e2, n64 e3, n64 e4, n64 e5, n64 ti, n64 sq, n64 li, .slice bA n bc, .slice pA m pc] 34)).heap.size = w.heap.size + 1 by simp] at this
  have b10 : ((w.alloc (.cells #[n64 fl, n64 e0, n64 e1, n64 e2, n64 e3, n64 e4, n64 e5, n64 ti, n64 sq, n64 li, .slice bA n bc, .slice pA m pc] 34)).alloc (.cells #[.int .u64 0, .int .u64 0, .int .u64 0, .slice none 0 0] 37)).cell? ⟨w.heap.size, 10, none⟩ = some (.slice bA n bc) := hbox.at_ 10 rfl
  obtain ⟨w1, hw1⟩ : ∃ w1, ((w.alloc (.cells #[n64 fl, n64 e0, n64 e1, n64 e2, n64 e3, n64 e4, n64 e5, n64 ti, n64 sq, n64 li, .slice bA n bc, .slice pA m pc] 34)).alloc (.cells #[.int .u64 0, .int .u64 0, .int .u64 0, .slice none 0 0] 37)) = w1 := ⟨_, rfl⟩
  rw [hw1] at kb hz1 hbox hres
  have HW1 := Lib.hid hw1
  have HB := Lib.hid (SlAt.keep hb kb (fun x y => x.keep y))
  have HN := Lib.hid (And.intro hn hm)
  have HZ := Lib.hid hz1
  have HRS := Lib.hid hres
  have HDA := Lib.hid (And.intro hda hsz)
  clear hbox hres hw1 hb hp hn hm hz1 hda hsz hok
  go_enter Try.func14, Try.ntmps14
  go_wp2_with fail
  rw [HW1.out]
  clear b10
  go_loopw [11] (fun i wr => ∃ q : Nat, q ≤ n ∧ i = .int .i64 q ∧ (∀ j (hj : j < bl.length), j < q → bl[j].ty ≠ k) ∧ KpN w1 wr) (fun i _ => n - (intOf i).toNat)
  case atStart => exact ⟨0, Nat.zero_le _, rfl, fun j _ hj => by omega, Kp.refl _ _⟩
  case round =>
    obtain ⟨q, hq, rfl, hno, hkr⟩ := hrel
    have hzr := hkr.size
    by_cases hlt : q < n
    · have hql : q < bl.length := by rw [HN.out.1]; exact hlt
      obtain ⟨ad, cs, rfl, -, hrow0, ⟨⟨dw, rfl, hdw⟩, hxo⟩⟩ := HB.out.row q hql
      have hrow := hrow0.keepN hkr
      have hdr := hdw.keepN hkr
      have hdl := HDA.out.1 bl[q] (List.getElem_mem hql)
      have hyes : bl[q].ty = k → findB bl k = some bl[q] := fun e => find_at bl k q hql (fun j hj => hno j (by omega) hj) e
      have hgo : bl[q].ty ≠ k → ∀ j (hj : j < bl.length), j < q + 1 → bl[j].ty ≠ k := fun e j hj hjq => by
        by_cases hje : j = q
        · subst hje; exact e
        · exact hno j hj (by omega)
      obtain ⟨x, hx⟩ : ∃ x, bl[q] = x := ⟨_, rfl⟩
      rw [hx] at hrow hdr hdl hyes hgo hxo
      obtain ⟨xt, xn, xf, xd⟩ := x
      dsimp only at hrow hdr hdl hyes hgo
      obtain ⟨dA, dc, rfl, -⟩ := hdr.form
      obtain ⟨xl, hxl⟩ : ∃ x, xd.length = x := ⟨_, rfl⟩
      rw [hxl] at hrow hdr hdl
      have c0 := hrow.c0
      have c1 := hrow.fld 0 rfl
      have c2 := hrow.fld 1 rfl
      have c3 := hrow.fld 2 rfl
      have kx : KpN wr (wr.alloc (.cells #[n64 xt, n64 xn, n64 xf, .slice dA xl dc] 37)) := (Kp.refl _ _).alloc _
      have hcx := CellsAt.new wr [n64 xt, n64 xn, n64 xf, .slice dA xl dc] 37
      have hzx : (wr.alloc (.cells #[n64 xt, n64 xn, n64 xf, .slice dA xl dc] 37)).heap.size = wr.heap.size + 1 := by simp
      have HX := Lib.hid (And.intro hcx (And.intro hdr (And.intro hxl hdl)))
      have HNO := Lib.hid (And.intro hno (And.intro hyes hgo))
      clear hrow hrow0 hdr hdw hdl hxl hcx hno hyes hgo hx hxo
      by_cases hkt : xt = k
      · subst hkt
        obtain ⟨v', w', r, o, k5⟩ := run_appB_nil (P := Try.prog) (ty := 27) (wr.alloc (.cells #[n64 xt, n64 xn, n64 xf, .slice dA xl dc] 37)) Try.underlying27 u8info (HX.out.2.1.keepN kx) (by have h1 := HX.out.2.2.1; have h2 := HX.out.2.2.2; have h3 := HDA.out.2; omega)
        have hz5 := k5.size
        have hcx5 := HX.out.1.keep (by omega) k5 (fun x => x)
        have krs := (HRS.out.keep (by have := HZ.out; omega) hkr (fun x => x)).keep (by have := HZ.out; omega) kx (fun x => x)
        have krs5 := krs.keep (by have := HZ.out; omega) k5 (fun x => x)
        obtain ⟨vA, vc, rfl, -⟩ := o.readsB.form
        have hfitv := o.fit
        have k6 : Kp (fun x => x = wr.heap.size) w' (w'.setCell ⟨wr.heap.size, 3, none⟩ (.slice vA xd.length vc)) := kp1_set3 _ _ _
        have gc6 : CellsAt (w'.setCell ⟨wr.heap.size, 3, none⟩ (.slice vA xd.length vc)) wr.heap.size [n64 xt, n64 xn, n64 xf, .slice vA xd.length vc] := ⟨by have := hcx5.1.setOne 3 (.slice vA xd.length vc) (by simp); rw [Nat.zero_add] at this; exact this, fun j => by rw [World.frozen?_setCell]; exact hcx5.2 j⟩
        have grs6 := krs5.keep (by have := HZ.out; omega) k6 (fun e => by have := HZ.out; omega)
        have c3' : w'.cell? ⟨wr.heap.size, 3, none⟩ = some (.slice dA xl dc) := hcx5.at_ 3 rfl
        have f3' := hcx5.2 3
        have k7 := Kp.setCells (w.heap.size + 1) [n64 xt, n64 xn, n64 xf, .slice vA xd.length vc] 0 (w'.setCell ⟨wr.heap.size, 3, none⟩ (.slice vA xd.length vc))
        have gr7 := grs6.put (ds := [n64 xt, n64 xn, n64 xf, .slice vA xd.length vc]) rfl
        have hld := run_loadAt_rowat (P := Try.prog) gc6.1 Try.underlying37 rfl (by kernel_rfl)
        have hst := run_storeAt_mid (P := Try.prog) (w'.setCell ⟨wr.heap.size, 3, none⟩ (.slice vA xd.length vc)) (w.heap.size + 1) 0 37 #[n64 xt, n64 xn, n64 xf, .slice vA xd.length vc] (grs6.there _ (Nat.le_refl _)) (by kernel_rfl) (by kernel_rfl)
        have o6 := (o.keep k6 (fun i hi e => by have := hi.1; omega)).keep k7 (fun i hi e => by have := hi.1; have := HZ.out; omega)
        have hfin : FindP ⟨fl, e0, e1, e2, e3, e4, e5, ti, sq, li, bl, pl⟩ xt w (.returned (.tuple #[.agg ([n64 xt, n64 xn, n64 xf, .slice vA xd.length vc]).toArray, .bool true])) ((w'.setCell ⟨wr.heap.size, 3, none⟩ (.slice vA xd.length vc)).setCells (w.heap.size + 1) 0 [n64 xt, n64 xn, n64 xf, .slice vA xd.length vc]) := by
          unfold FindP
          rw [show findB bl xt = some ⟨xt, xn, xf, xd⟩ from HNO.out.2.1 rfl]
          refine ⟨_, rfl, o6.wide (fun i hi hf => ⟨by have := hf.1; have := HZ.out; omega, hi⟩), ?_⟩
          exact ((((kb.thenN hkr).thenN kx).thenN k5).fresh k6 (fun i e => by have := HZ.out; omega)).fresh k7 (fun i e => by have := HZ.out; omega)
        have HF := Lib.hid hfin
        have HL := Lib.hid (And.intro hld (And.intro hst gr7))
        clear hfin o o6 gc6 grs6 krs krs5 hcx5 k6 k7 hld hst gr7 hfitv
        go_wp2_with (first
          | (at_builtin; refine app_op r rfl rfl ?_)
          | ((with_reducible show wpList _ _ _ (Oper.mk _ (Op.load 37 _) _ _ _ _ :: _) _ (World.setCell w' _ _)); refine wpl_val rfl (run_load_opv HL.out.1 rfl) ?_)
          | ((with_reducible show wpList _ _ _ (Oper.mk _ (Op.store 37 _ _) _ _ _ _ :: _) _ (World.setCell w' _ _)); refine wpl_skip rfl (run_store_op HL.out.2.1 rfl rfl) ?_))
        (try simp only [Exit.inBlock, Exit.then])
        refine bodyPost_ret (results_cell_tmp_at rfl _ _ rfl HL.out.2.2.1 Try.underlying37 rfl (by kernel_rfl)) rfl ?_
        exact HF.out
      · have hke : ((xt : Int) == (k : Int)) = false := by simp; omega
        go_wp2_with fail
        go_roundw
        case rel => exact ⟨q + 1, by omega, by go_num, HNO.out.2.2 hkt, hkr.alloc _⟩
        case measure => exact meas_up hlt
    · have hqn : n = q := by omega
      subst hqn
      have krs := HRS.out.keep (by have := HZ.out; omega) hkr (fun x => x)
      have k7 := Kp.setCells (w.heap.size + 1) [.int .u64 0, .int .u64 0, .int .u64 0, .slice none 0 0] 0 wr
      have gr7 := krs.put (ds := [.int .u64 0, .int .u64 0, .int .u64 0, .slice none 0 0]) rfl
      have hst := run_storeAt_mid (P := Try.prog) wr (w.heap.size + 1) 0 37 #[.int .u64 0, .int .u64 0, .int .u64 0, .slice none 0 0] (krs.there _ (Nat.le_refl _)) (by kernel_rfl) (by kernel_rfl)
      have hfin : FindP ⟨fl, e0, e1, e2, e3, e4, e5, ti, sq, li, bl, pl⟩ k w (.returned (.tuple #[.agg ([.int .u64 0, .int .u64 0, .int .u64 0, .slice none 0 0]).toArray, .bool false])) (wr.setCells (w.heap.size + 1) 0 [.int .u64 0, .int .u64 0, .int .u64 0, .slice none 0 0]) := by
        unfold FindP
        rw [show findB bl k = none from find_none bl k (fun j hj => hno j hj (by rw [← HN.out.1]; exact hj))]
        exact ⟨rfl, (kb.thenN hkr).fresh k7 (fun i e => by have := HZ.out; omega)⟩
      have HF := Lib.hid hfin
      have HL := Lib.hid (And.intro hst gr7)
      clear hfin hst gr7 k7 krs hno
      go_wp2_with ((with_reducible show wpList _ _ _ (Oper.mk _ (Op.store 37 _ _) _ _ _ _ :: _) _ _); refine wpl_skip rfl (run_store_op HL.out.1 rfl rfl) ?_)
      (try simp only [Exit.inBlock, Exit.then])
      refine bodyPost_ret (results_cell_tmp_at rfl _ _ rfl HL.out.2.1 Try.underlying37 rfl (by kernel_rfl)) rfl ?_
      exact HF.out
end Go.Proofs.Yteokkpmndfekoaa
