/- A way: Take, Drop. -/
import Derived.Test.YteokkpmndfekoaaDoorEE
namespace Go.Proofs.YteokkpmndfekoaaDoor
open Go Go.RowKit
set_option maxRecDepth 100000

theorem stOf_erase (ls : List Dg) (j : Nat) : stOf (ls.eraseIdx j) = (stOf ls).eraseIdx j := by
  unfold stOf
  rw [List.eraseIdx_eq_take_drop_succ, List.eraseIdx_eq_take_drop_succ]
  simp
/-- a datagram is handed out, and is there no more -/
def WTakeP (w : World) (F : Nat → Prop) (g n : Nat) (xs : List UInt8) (st : List (List UInt8 × Bool)) (e : Ending) (w' : World) : Prop :=
  ∃ u, e = .returned (.tuple #[u, .int .i64 0]) ∧ OwB w' 5 (Iv w.heap.size w'.heap.size) u xs ∧ WayX true 68 w' F g n st ∧ Kp F w w'
theorem way_take_out {w : World} {F : Nat → Prop} {g n : Nat} {st : List (List UInt8 × Bool)} {i : Int} (hX : WayX true 68 w F g n st) (hi : atS st i = none) :
    Calls Tryd.prog 8 #[.pointer (some ⟨g, 0, none⟩), .int .i64 i] w (BnoP w 4) := by
  obtain ⟨v, ls, h, rfl⟩ := hX
  have hout : i < 0 ∨ (ls.length : Int) ≤ i := by
    unfold atS at hi
    split at hi
    · exact .inl (by assumption)
    · have := List.getElem?_eq_none_iff.1 hi
      rw [stOf_len] at this
      omega
  have hM := way_look_out h hout
  clear h hout hi
  go_enter Tryd.func8, Tryd.ntmps8
  go_wp2_with fail
  refine hM.mono ?_
  rintro e w2 ⟨rfl, k2⟩
  go_wp2
  go_ret2
  exact ⟨rfl, k2⟩
theorem DgR.cut {w w' : World} {F : Nat → Prop} {gr m cap j : Nat} {ls : List Dg} (h : DgR true 68 w F (.slice (some ⟨gr, 0, none⟩) m cap) ls) (hm : ls.length = m) (hj : j < m) (o : OwC w' 68 2 F (.slice (some ⟨gr, 0, none⟩) (m - 1) cap) (m - 1) ((dgCs true ls).take (j * 2) ++ (dgCs true ls).drop ((j + 1) * 2))) (k : Kp (fun k => k = gr) w w') :
    DgR true 68 w' F (.slice (some ⟨gr, 0, none⟩) (m - 1) cap) (ls.eraseIdx j) := by
  refine h.part _ (List.eraseIdx_sublist ls j) ?_ k (fun d hd i hi hi2 => h.out (by decide) d hd i (by rw [hi2]; rfl) hi) (fun _ x => x)
  rw [List.length_eraseIdx_of_lt (by omega), hm, List.eraseIdx_eq_take_drop_succ, dgCs_app, ← dgCs_take, ← dgCs_drop]
  exact o
set_option maxHeartbeats 3200000 in
theorem way_take {w : World} {F : Nat → Prop} {g n : Nat} {st : List (List UInt8 × Bool)} {j : Nat} (hX : WayX true 68 w F g n st) (hj : j < st.length) :
    Calls Tryd.prog 8 #[.pointer (some ⟨g, 0, none⟩), .int .i64 (j : Int)] w (WTakeP w F g n st[j].1 (st.eraseIdx j)) := by
  obtain ⟨v, ls, h, rfl⟩ := hX
  rw [stOf_len] at hj
  have hM := way_look h hj
  rw [stOf_get ls j hj]
  generalize ls[j].b = xs at *
  obtain ⟨gr, vc, rfl, hFg, hvc⟩ := h.r.form (by omega)
  obtain ⟨m, hm⟩ : ∃ m, ls.length = m := ⟨_, rfl⟩
  have hgr : gr < w.heap.size := h.r.row.lt gr rfl
  have c1 := h.c1
  have hn2 := h.n2
  have hle := h.le
  rw [hm] at c1 h
  have HH := Lib.hid (And.intro h hm)
  have hgl := h.lt
  have hne : gr ≠ g := fun e => h.ne (by rw [e]; rfl)
  clear h
  go_enter Tryd.func8, Tryd.ntmps8
  go_wp2_with fail
  refine hM.mono ?_
  rintro e w2 ⟨u, rfl, ou, k2⟩
  have c12 : w2.cell? ⟨g, 1, none⟩ = some (.slice (some ⟨gr, 0, none⟩) m vc) := by rw [k2.cell hgl (fun x => x)]; exact c1
  have h2 := HH.out.1.keepN k2
  have hrow := h2.r.row
  rw [HH.out.2] at hrow
  have hD := wdel_c (i := j) (j := j + 1) hrow (dgCs_one_cell true ls h2.r.all.each) (by omega) rfl (by omega)
  rw [show ((j + 1 : Nat) : Int) = (j : Int) + 1 from by omega] at hD
  have H2 := Lib.hid h2
  have f1 : w2.frozen? ⟨g, 1, none⟩ = false := h2.fz 1
  clear c1 hrow h2
  go_wp2_with fail
  refine hD.mono ?_
  rintro e w3 ⟨rfl, o3, k3⟩
  have c13 : w3.cell? ⟨g, 1, none⟩ = some (.slice (some ⟨gr, 0, none⟩) m vc) := by rw [k3.cell (show g < w2.heap.size by have := k2.size; omega) (fun e => hne e.symm)]; exact c12
  have f13 : w3.frozen? ⟨g, 1, none⟩ = false := by rw [k3.frozen (show g < w2.heap.size by have := k2.size; omega) (fun e => hne e.symm)]; exact f1
  have hR := H2.out.r.cut HH.out.2 (by omega) o3 k3
  have hW := H2.out.setRow k3 (fun e => hne e.symm) hR H2.out.fit (fun e => hne (Option.some.inj e)) (fun d hd => H2.out.nes d ((List.eraseIdx_sublist ls j).subset hd)) (by have := List.length_eraseIdx_le ls j; omega) (fun d hd => H2.out.sm d ((List.eraseIdx_sublist ls j).subset hd))
  have ks : Kp (fun k => k = g) w3 (w3.setCell ⟨g, 1, none⟩ (.slice (some ⟨gr, 0, none⟩) (m - 1) vc)) := (Kp.refl (fun k => k = g) w3).setCell (p := ⟨g, 1, none⟩) (.inl rfl) _
  have hub : ∀ i, u.ownBlock = some i → w.heap.size ≤ i := fun i hi => (ou.fit i hi).1
  have hz3 := k3.size
  have hzs := ks.size
  have ou3 := ((ou.keepB k3 (fun i hi e => by have := hub i hi; omega)).keepB ks (fun i hi e => by have := hub i hi; omega)).wide (G := Iv w.heap.size (w3.setCell ⟨g, 1, none⟩ (.slice (some ⟨gr, 0, none⟩) (m - 1) vc)).heap.size) (fun i hi h => ⟨h.1, hi⟩)
  have hall : Kp F w (w3.setCell ⟨g, 1, none⟩ (.slice (some ⟨gr, 0, none⟩) (m - 1) vc)) := ((Kp.after k2 k3).mono (fun i _ e => by rw [e]; exact hFg)).trans ks (fun _ _ x => x) (fun i _ e => by rw [e]; exact HH.out.1.fit)
  have hfin : WTakeP w F g n xs ((stOf ls).eraseIdx j) (.returned (.tuple #[u, .int .i64 0])) (w3.setCell ⟨g, 1, none⟩ (.slice (some ⟨gr, 0, none⟩) (m - 1) vc)) := ⟨u, rfl, ou3, ⟨_, _, hW, stOf_erase ls j⟩, hall⟩
  have HF := Lib.hid hfin
  clear hfin hall ou3 hW hR o3 ks k3 k2 hub ou hzs hD c12 f1
  go_wp2
  go_ret2
  exact HF.out
theorem way_drop_out {w : World} {F : Nat → Prop} {g n : Nat} {st : List (List UInt8 × Bool)} {i : Int} (hX : WayX true 68 w F g n st) (hi : atS st i = none) :
    Calls Tryd.prog 11 #[.pointer (some ⟨g, 0, none⟩), .int .i64 i] w fun e w' => e = .returned (.int .i64 4) ∧ KpN w w' := by
  have hM := way_take_out hX hi
  go_enter Tryd.func11, Tryd.ntmps11
  go_wp2_with fail
  refine hM.mono ?_
  rintro e w2 ⟨rfl, k2⟩
  go_wp2
  go_ret
  exact ⟨rfl, k2⟩
theorem way_drop {w : World} {F : Nat → Prop} {g n : Nat} {st : List (List UInt8 × Bool)} {j : Nat} (hX : WayX true 68 w F g n st) (hj : j < st.length) :
    Calls Tryd.prog 11 #[.pointer (some ⟨g, 0, none⟩), .int .i64 (j : Int)] w (WOpP true 68 w F g n (.int .i64 0) (st.eraseIdx j)) := by
  have hM := way_take hX hj
  go_enter Tryd.func11, Tryd.ntmps11
  go_wp2_with fail
  refine hM.mono ?_
  rintro e w2 ⟨u, rfl, ou, hX2, k2⟩
  go_wp2
  go_ret
  exact ⟨rfl, F, hX2, Gr.refl _ _ _, k2⟩
end Go.Proofs.YteokkpmndfekoaaDoor
