/- disk.Read. -/
import Derived.Test.YthkbgbbejgpeaaaDK
import Derived.Test.YthkbgbbejgpeaaaOCL
import Derived.Deep.WholeRow
import Derived.Deep.DeepCutAuto
namespace Go.Proofs.Ythkbgbbejgpeaaa
open Go Go.RowKit
set_option maxRecDepth 100000

theorem secSize (cs : List Value) (h : cs.length = 128) : (Try.prog.info? 85).map (·.size) = some cs.length := by
  rw [h]
  kernel_rfl
theorem secSizeA (cs : Array Value) (h : cs.size = 128) : (Try.prog.info? 85).map (·.size) = some cs.size := by
  rw [h]
  kernel_rfl
theorem add0 (a : Addr) : a.add 0 = a := rfl
theorem bvs_all (xs : List UInt8) : (bvs xs).toArray.all (·.oneCell') = true := by
  rw [Array.all_eq_true']
  intro x hx
  exact bvs_one xs x (by simpa using hx)
theorem flat_len (l : List (List UInt8)) (h : ∀ s ∈ l, s.length = 128) : (l.flatMap bvs).length = l.length * 128 := by
  induction l with
  | nil => rfl
  | cons s r ih =>
    rw [List.flatMap_cons, List.length_append, ih (fun x hx => h x (by simp [hx])), bvs_length, h s (by simp), List.length_cons]
    omega
theorem flat_at (l : List (List UInt8)) (h : ∀ s ∈ l, s.length = 128) (i : Nat) (hi : i < l.length) (j : Nat) (v : Value) (hv : (bvs l[i])[j]? = some v) : (l.flatMap bvs)[i * 128 + j]? = some v := by
  have e : l = l.take i ++ (l[i] :: l.drop (i + 1)) := by rw [← List.drop_eq_getElem_cons hi, List.take_append_drop]
  have hl : ((l.take i).flatMap bvs).length = i * 128 := by
    rw [flat_len _ (fun s hs => h s (List.mem_of_mem_take hs)), List.length_take, Nat.min_eq_left (by omega)]
  have hj : j < (bvs l[i]).length := (List.getElem?_eq_some_iff.1 hv).1
  have key : ∀ l' : List (List UInt8), l' = l.take i ++ (l[i] :: l.drop (i + 1)) → (l'.flatMap bvs)[i * 128 + j]? = some v := by
    intro l' e'
    subst e'
    rw [List.flatMap_append, List.flatMap_cons, List.getElem?_append_right (by omega), hl, Nat.add_sub_cancel_left, List.getElem?_append_left hj]
    exact hv
  exact key l e
theorem OwC.bound {w : World} {e size n : Nat} {F : Nat → Prop} {v : Value} {cs : List Value} (h : OwC w e size F v n cs) : n ≤ 9223372036854775807 := by
  rcases h.own.2 with ⟨_, h0⟩ | ⟨g, cap, cur, rfl, _, _, hn, hm, _⟩
  · have : n = 0 := by simpa using h0
    omega
  · unfold maxLen at hm
    omega
theorem OwC.rowAt {w : World} {e size g n cap : Nat} {F : Nat → Prop} {cs : List Value} (h : OwC w e size F (.slice (some ⟨g, 0, none⟩) n cap) n cs) (i : Nat) (row : List Value) (hr : ∀ j v, row[j]? = some v → cs[i + j]? = some v) : RowAt w ⟨g, i, none⟩ row := fun j v hj => by
  have := h.own.cells (g := g) rfl (i + j) v (hr j v hj)
  rw [add_plain'] at this
  rw [Addr.add_mid]
  exact this
/-- what is read: the bytes, the error -/
def readD (d : Dk) (i : Int) : List UInt8 × Nat :=
  if hasB d i = false then ([], 1) else if d.off then ([], 5) else
    match (d.ca i.toNat).getLast? with
    | some s => (s, 0)
    | none => if d.to i.toNat then ([], 40) else (d.du i.toNat, 0)
def DReadP (r : List UInt8 × Nat) (w : World) (e : Ending) (w' : World) : Prop := ∃ u, e = .returned (.tuple #[u, .int .i64 (r.2 : Int)]) ∧ OwB w' 5 (Iv w.heap.size w'.heap.size) u r.1 ∧ KpN w w'
set_option maxRecDepth 100000 in
set_option maxHeartbeats 3200000 in
theorem dread_c {w : World} {F : Nat → Prop} {g bd bt m k : Nat} {D : DataW Unit} {sl : Nat → Value} {d : Dk} {i : Int} (h : DiskM w F g bd bt m k D sl d) (hi : -9223372036854775808 ≤ i ∧ i ≤ 9223372036854775807) :
    Calls Try.prog 26 #[.pointer (some ⟨g, 0, none⟩), .int .i64 i] w (DReadP (readD d i) w) := by
  have c0 := h.c0
  have c1 := h.c1
  have c2 := h.c2
  have c3 := h.c3
  have n2 := h.n2
  go_enter Try.func26, Try.ntmps26
  by_cases hb : 0 ≤ i ∧ i < (d.n : Int)
  · obtain ⟨j, rfl⟩ := Int.eq_ofNat_of_zero_le hb.1
    have hjn : j < d.n := by omega
    go_wp2_with fail
    refine (has_t h hjn).mono ?_
    rintro e w2 ⟨rfl, rfl⟩
    have hB : hasB d (j : Int) = true := by simp [hasB]; omega
    by_cases ho : d.off = true
    · have hr : readD d (j : Int) = ([], 5) := by simp [readD, hB, ho]
      have HR := Lib.hid hr
      rw [ho] at c3
      clear hr hB
      go_wp2
      go_ret2
      rw [HR.out]
      exact ⟨_, rfl, OwB.nil _ _ _, Kp.refl _ _⟩
    · have ho' : d.off = false := by simpa using ho
      rw [ho'] at c3
      have hlen := h.len j hjn
      have hrow := h.sec j hjn
      have hlk := h.look j hjn
      have hgl := h.lt.1
      obtain ⟨T, hT⟩ : ∃ T, (bvs (d.du j)).toArray = T := ⟨_, rfl⟩
      have hTs : T.size = 128 := by rw [← hT]; simp [bvs, hlen]
      have hTa : T.all (·.oneCell') = true := by rw [← hT]; exact bvs_all _
      have hld := run_loadAt_rowat (P := Try.prog) hrow Try.underlying85 rfl (secSize _ (by simp [bvs, hlen]))
      rw [hT] at hld
      obtain ⟨Z, hZ⟩ : ∃ Z, Array.replicate 128 (Value.int .u8 0) = Z := ⟨_, rfl⟩
      have hZs : Z.size = 128 := by rw [← hZ]; simp
      have hz : ∀ W, (zeroValue 85).run Try.prog W = .ok (.agg Z) W := by
        intro W
        rw [← hZ]
        kernel_rfl
      have hst := run_storeAt_new (P := Try.prog) w 85 Z T (secSizeA T hTs) (by omega) hTa
      obtain ⟨W1, hW1⟩ : ∃ W1, w.alloc (.cells T 85) = W1 := ⟨_, rfl⟩
      rw [hW1] at hst
      have k1 : KpN w W1 := by rw [← hW1]; exact (Kp.refl _ _).alloc _
      have h1 := h.keepN k1
      have hlk := h1.look j hjn
      have c12 := h1.c2
      have c11 := h1.c1
      have ct := h1.tor j hjn
      have HT := Lib.hid hT
      have HTA := Lib.hid hTa
      have HHB := Lib.hid hB
      have HTS := Lib.hid hTs
      clear hT hTa hlen hrow hZ hB hTs hZs
      by_cases hca : d.ca j = []
      · have hsl := h.nul j hjn hca
        rw [hsl] at hlk
        by_cases hto : d.to j = true
        · have hr : readD d (j : Int) = ([], 40) := by
            have := HHB.out
            simp [readD, this, ho', hca, hto]
          have HR := Lib.hid hr
          rw [hto] at ct
          clear hr hsl hca
          go_wp2_with (first | ((with_reducible show wpList _ _ _ (Oper.mk _ (Op.load 85 _) _ _ _ _ :: _) _ _); refine wpl_val rfl (run_load_opv hld rfl) ?_) | ((with_reducible show wpList _ _ _ (Oper.mk _ (Op.store 85 _ _) _ _ _ _ :: _) _ _); refine wpl_skip rfl (run_store_op hst rfl rfl) ?_))
          go_ret2
          rw [HR.out]
          exact ⟨_, rfl, OwB.nil _ _ _, k1⟩
        · have hto' : d.to j = false := by simpa using hto
          have hr : readD d (j : Int) = (d.du j, 0) := by
            have := HHB.out
            simp [readD, this, ho', hca, hto']
          have HR := Lib.hid hr
          rw [hto'] at ct
          have hrd : RdB W1 (.slice (some ⟨w.heap.size, 0, none⟩) 128 128) (d.du j) := by
            have := RdB.laid w 85 (d.du j) T (0, 0) HT.out.symm w.heap.size 128 rfl (by rw [h.len j hjn]; omega)
            rw [hW1, h.len j hjn] at this
            exact this
          clear hr hsl hca
          go_wp2_with (first | ((with_reducible show wpList _ _ _ (Oper.mk _ (Op.load 85 _) _ _ _ _ :: _) _ _); refine wpl_val rfl (run_load_opv hld rfl) ?_) | ((with_reducible show wpList _ _ _ (Oper.mk _ (Op.store 85 _ _) _ _ _ _ :: _) _ _); refine wpl_skip rfl (run_store_op hst rfl rfl) ?_))
          refine (clone_c hrd (by rw [h.len j hjn]; omega)).mono ?_
          rintro e w3 ⟨u, rfl, o3, k3⟩
          go_wp2
          go_ret2
          rw [HR.out]
          exact ⟨_, rfl, o3.wide (fun b _ hb => ⟨by have := hb.1; have := k1.size; omega, hb.2⟩), k1.thenN k3⟩
      · obtain ⟨M, hM⟩ : ∃ M, (d.ca j).length = M + 1 := by
          rcases hq : d.ca j with _ | ⟨x, r⟩
          · exact absurd hq hca
          · exact ⟨r.length, by simp⟩
        obtain ⟨gv, cv, hsl, -, hcv⟩ := (h1.own j hjn).form (by omega)
        have hown := h1.own j hjn
        rw [hM] at hsl hcv hown
        rw [hsl] at hlk hown
        have hMb := hown.bound
        obtain ⟨s, hs⟩ : ∃ s, (d.ca j)[M]'(by omega) = s := ⟨_, rfl⟩
        have hsl128 : s.length = 128 := by rw [← hs]; exact h.clen j hjn _ (List.getElem_mem _)
        have hlast : (d.ca j).getLast? = some s := by
          rw [List.getLast?_eq_getElem?, hM, Nat.add_sub_cancel, List.getElem?_eq_getElem (by omega), hs]
        have hrow2 := hown.rowAt (M * 128) (bvs s) (fun t v hv => flat_at _ (h.clen j hjn) M (by omega) t v (by rw [hs]; exact hv))
        have hr : readD d (j : Int) = (s, 0) := by
          have := HHB.out
          simp [readD, this, ho', hlast]
        have HR := Lib.hid hr
        obtain ⟨T2, hT2⟩ : ∃ T, (bvs s).toArray = T := ⟨_, rfl⟩
        have hT2s : T2.size = 128 := by rw [← hT2]; simp [bvs, hsl128]
        have hT2a : T2.all (·.oneCell') = true := by rw [← hT2]; exact bvs_all _
        have hld2 := run_loadAt_rowat (P := Try.prog) hrow2 Try.underlying85 rfl (secSize _ (by simp [bvs, hsl128]))
        rw [hT2] at hld2
        have hst2 := run_storeAt_new (P := Try.prog) w 85 T T2 (secSizeA T2 hT2s) (by have := HTS.out; omega) hT2a
        obtain ⟨W2, hW2⟩ : ∃ W2, w.alloc (.cells T2 85) = W2 := ⟨_, rfl⟩
        rw [hW1, hW2] at hst2
        have k2 : KpN w W2 := by rw [← hW2]; exact (Kp.refl _ _).alloc _
        have hrd : RdB W2 (.slice (some ⟨w.heap.size, 0, none⟩) 128 128) s := by
          have := RdB.laid w 85 s T2 (0, 0) hT2.symm w.heap.size 128 rfl (by omega)
          rw [hW2, hsl128] at this
          exact this
        have HSL := Lib.hid hsl128
        clear hr hsl hca hM hown hs hsl128 hlast hrow2 hT2 hT2s hT2a
        go_wp2_with (first
          | ((with_reducible show wpList _ _ _ (Oper.mk _ (Op.load 85 _) _ _ _ _ :: _) _ _); first | refine wpl_val rfl (run_load_opv hld rfl) ?_ | refine wpl_val rfl (run_load_opv hld2 rfl) ?_)
          | ((with_reducible show wpList _ _ _ (Oper.mk _ (Op.store 85 _ _) _ _ _ _ :: _) _ _); first | refine wpl_skip rfl (run_store_op hst rfl rfl) ?_ | refine wpl_skip rfl (run_store_op hst2 rfl rfl) ?_))
        refine (clone_c hrd (by have := HSL.out; omega)).mono ?_
        rintro e w3 ⟨u, rfl, o3, k3⟩
        go_wp2
        go_ret2
        rw [HR.out]
        exact ⟨_, rfl, o3.wide (fun b _ hb => ⟨by have := hb.1; have := k2.size; omega, hb.2⟩), k2.thenN k3⟩
  · have hB : hasB d i = false := by simp [hasB]; omega
    have hr : readD d i = ([], 1) := by simp [readD, hB]
    have HR := Lib.hid hr
    clear hr hB
    go_wp2_with fail
    refine (has_f h (by omega)).mono ?_
    rintro e w2 ⟨rfl, rfl⟩
    go_wp2
    go_ret2
    rw [HR.out]
    exact ⟨_, rfl, OwB.nil _ _ _, Kp.refl _ _⟩
end Go.Proofs.Ythkbgbbejgpeaaa
