/- A blank disk. -/
import Derived.Test.YthkbgbbejgpeaaaProg
import Derived.Test.YthkbgbbejgpeaaaRS
import Derived.Laws.MakeOwn
import Derived.WideMake
namespace Go.Proofs.Ythkbgbbejgpeaaa
open Go Go.RowKit
set_option maxRecDepth 100000

theorem secInfo : (Try.prog.info? 85).map (fun i => (i.zero, i.size, i.bytes)) = some (some (.agg (Array.replicate 128 (.int .u8 0))), 128, 128) := by kernel_rfl
theorem boolInfo : (Try.prog.info? 4).map (fun i => (i.zero, i.size, i.bytes)) = some (some (.bool false), 1, 1) := by kernel_rfl
theorem run_mk {t e : TypeId} {z : Value} {size bytes : Nat} (ht : Try.prog.underlying t = some (.slice e)) (hinfo : (Try.prog.info? e).map (fun i => (i.zero, i.size, i.bytes)) = some (some z, size, bytes)) (n : Nat) (hb : bytes * n ≤ 281474976710656) (hn : n ≤ 1000000000) (w : World) :
    (Instr.makeSlice t (.int .i64 (n : Int)) (.int .i64 (n : Int))).run Try.prog w = .ok (.slice (some ⟨w.heap.size, 0, none⟩) n n) (w.alloc (.cells (madeCells z.cells (n * size)) e)) := by
  rcases hi : Try.prog.info? e with _ | i
  · rw [hi] at hinfo; cases hinfo
  · rw [hi] at hinfo
    simp only [Option.map_some, Option.some.injEq, Prod.mk.injEq] at hinfo
    obtain ⟨hz, hs, hbb⟩ := hinfo
    subst hs hbb
    have hb' : (i.bytes : Int) * (n : Int) ≤ 281474976710656 := by
      have h : ((i.bytes * n : Nat) : Int) ≤ 281474976710656 := by omega
      rwa [Int.natCast_mul] at h
    have := run_make (P := Try.prog) w t e i z ht hi hz .i64 .i64 (n : Int) (n : Int) (by omega) (Int.le_refl _) hb' (by omega)
    simpa only [Int.toNat_natCast] using this
theorem alloc_at (w : World) (o : Obj) : (w.alloc o).heap[w.heap.size]? = some o := by
  show (w.heap.push o)[w.heap.size]? = some o
  simp
/-- a blank disk in block g, its sectors in bd, the torn ones in bt, the cache m -/
def BlankP (w : World) (n : Nat) : Ending → World → Prop := fun e w' => ∃ g bd bt m, e = .returned (.pointer (some ⟨g, 0, none⟩)) ∧ w.heap.size ≤ g ∧ w.heap.size ≤ bd ∧ w.heap.size ≤ bt ∧ w.heap.size ≤ m ∧ g ≠ bd ∧ g ≠ bt ∧ g ≠ m ∧ bd ≠ bt ∧ bd ≠ m ∧ bt ≠ m ∧
      w'.heap[g]? = some (.cells #[.slice (some ⟨bd, 0, none⟩) n n, .slice (some ⟨bt, 0, none⟩) n n, .map (some m), .bool false, .int .i64 (-1)] 79 (0, 0)) ∧
      w'.heap[bd]? = some (.cells (madeCells (Value.agg (Array.replicate 128 (.int .u8 0))).cells (n * 128)) 85 (0, 0)) ∧ w'.heap[bt]? = some (.cells (madeCells (Value.bool false).cells (n * 1)) 4 (0, 0)) ∧ w'.heap[m]? = some (.map #[] 0) ∧ KpN w w'
set_option maxHeartbeats 6400000 in
set_option maxRecDepth 100000 in
theorem blank_c {n : Nat} {w : World} (hn : n ≤ 65536) :
    Calls Try.prog 47 #[.int .i64 (n : Int)] w (BlankP w n) := by
  have h75 := run_mk (t := 75) Try.underlying75 secInfo n (by omega) (by omega)
  have h76 := run_mk (t := 76) Try.underlying76 boolInfo n (by omega) (by omega)
  have h77 := fun W => run_makeMap_plain (P := Try.prog) W (t := 77)
  obtain ⟨C1, hC1⟩ : ∃ C1, madeCells (Value.agg (Array.replicate 128 (.int .u8 0))).cells (n * 128) = C1 := ⟨_, rfl⟩
  obtain ⟨C2, hC2⟩ : ∃ C2, madeCells (Value.bool false).cells (n * 1) = C2 := ⟨_, rfl⟩
  rw [hC1] at h75
  rw [hC2] at h76
  have HC1 := Lib.hid hC1
  have HC2 := Lib.hid hC2
  clear hC1 hC2
  go_enter Try.func47, Try.ntmps47
  go_wp2
  refine rg_begin 8 (fun _ => False) (by kernel_rfl) (fun w0 d0 => ?_)
  have z0 := d0.size
  -- region 1, 8 operations
  refine rg_take 0 (d := (some 3)) (v := .int .i64 n) (by decide) rfl rfl (by kernel_rfl) (by kernel_rfl) (by kernel_rfl) (fun _ _ _ h => h) rfl (fun W => rfl) ?_
  conv => arg 8; simp only [Act.put, List.setIfInBounds_toArray, List.set_cons_zero, List.set_cons_succ]
  refine rg_take 2 (d := (some 5)) (v := .int .i64 n) (by decide) rfl rfl (by kernel_rfl) (by kernel_rfl) (by kernel_rfl) (fun _ _ _ h => h) rfl (fun W => rfl) ?_
  conv => arg 8; simp only [Act.put, List.setIfInBounds_toArray, List.set_cons_zero, List.set_cons_succ]
  refine rg_step [1, 3, 4] (by kernel_rfl) (by simp) (fun i hi => ?_)
  simp only [List.mem_cons, List.not_mem_nil, or_false] at hi
  rcases hi with rfl | rfl | rfl
  · have fbd : (w0.alloc (.cells C1 85)).heap[w0.heap.size]? = some (.cells C1 85) := alloc_at _ _
    have s0 : (w0.alloc (.cells C1 85)).heap.size = w0.heap.size + 1 := by simp
    have k1 := (Kp.refl (fun _ => False) w0).alloc (.cells C1 85)
    refine rg_go (d := some 4) rfl rfl rfl (run_mk_op (h75 w0)) k1 ?_
    conv => arg 8; simp only [Act.put, List.setIfInBounds_toArray, List.set_cons_zero, List.set_cons_succ]
    generalize w0.alloc (.cells C1 85) = w1 at *
    obtain ⟨bd, ebd⟩ : ∃ b, w0.heap.size = b := ⟨_, rfl⟩
    rw [ebd] at fbd ⊢
    have kk := d0.thenN k1
    refine rg_step [3, 4] (by kernel_rfl) (by simp) (fun i hi => ?_)
    simp only [List.mem_cons, List.not_mem_nil, or_false] at hi
    rcases hi with rfl | rfl
    · have fbt : (w1.alloc (.cells C2 4)).heap[w1.heap.size]? = some (.cells C2 4) := alloc_at _ _
      have s1 : (w1.alloc (.cells C2 4)).heap.size = w1.heap.size + 1 := by simp
      have k2 := (Kp.refl (fun _ => False) w1).alloc (.cells C2 4)
      refine rg_go (d := some 6) rfl rfl rfl (run_mk_op (h76 w1)) k2 ?_
      conv => arg 8; simp only [Act.put, List.setIfInBounds_toArray, List.set_cons_zero, List.set_cons_succ]
      generalize w1.alloc (.cells C2 4) = w2 at *
      obtain ⟨bt, ebt⟩ : ∃ b, w1.heap.size = b := ⟨_, rfl⟩
      rw [ebt] at fbt ⊢
      replace fbd := (k2.block _ (by omega) (fun x => x)).trans fbd
      replace kk := kk.thenN k2
      refine rg_step [4] (by kernel_rfl) (by simp) (fun i hi => ?_)
      obtain rfl : i = 4 := by simpa using hi
      have fm : (w2.alloc (.map #[] 0)).heap[w2.heap.size]? = some (.map #[] 0) := alloc_at _ _
      have s2 : (w2.alloc (.map #[] 0)).heap.size = w2.heap.size + 1 := by simp
      have k3 := (Kp.refl (fun _ => False) w2).alloc (.map #[] 0)
      refine rg_go (d := some 7) rfl rfl rfl (run_mkmap_op (h77 w2)) k3 ?_
      conv => arg 8; simp only [Act.put, List.setIfInBounds_toArray, List.set_cons_zero, List.set_cons_succ]
      generalize w2.alloc (.map #[] 0) = w3 at *
      obtain ⟨m, em⟩ : ∃ b, w2.heap.size = b := ⟨_, rfl⟩
      rw [em] at fm ⊢
      replace fbd := (k3.block _ (by omega) (fun x => x)).trans fbd
      replace fbt := (k3.block _ (by omega) (fun x => x)).trans fbt
      replace kk := kk.thenN k3
      obtain ⟨g, eg⟩ : ∃ g, w3.heap.size = g := ⟨_, rfl⟩
      have HZ := Lib.hid (show w.heap.size ≤ bd ∧ w.heap.size ≤ bt ∧ w.heap.size ≤ m ∧ bd < g ∧ bt < g ∧ m < g ∧ bd ≠ bt ∧ bd ≠ m ∧ bt ≠ m from by omega)
      clear s0 s1 s2 z0 ebd ebt em
      refine rg_step [5] (by kernel_rfl) (by simp) (fun i hi => ?_)
      obtain rfl : i = 5 := by simpa using hi
      refine rg_go (d := some 8) (v := .agg #[.slice (some ⟨bd, 0, none⟩) n n, .slice (some ⟨bt, 0, none⟩) n n, .map (some m), .bool false, .int .i64 (-1)]) rfl rfl rfl (w' := w3) (by go_simp) (Kp.refl _ _) ?_
      conv => arg 8; simp only [Act.put, List.setIfInBounds_toArray, List.set_cons_zero, List.set_cons_succ]
      refine rg_step [6] (by kernel_rfl) (by simp) (fun i hi => ?_)
      obtain rfl : i = 6 := by simpa using hi
      have k9 := (Kp.refl (fun _ => False) w3).alloc (.cells #[.slice (some ⟨bd, 0, none⟩) n n, .slice (some ⟨bt, 0, none⟩) n n, .map (some m), .bool false, .int .i64 (-1)] 79)
      refine rg_go (d := some 9) (v := .pointer (some ⟨g, 0, none⟩)) rfl rfl rfl (w' := w3.alloc (.cells #[.slice (some ⟨bd, 0, none⟩) n n, .slice (some ⟨bt, 0, none⟩) n n, .map (some m), .bool false, .int .i64 (-1)] 79)) (by go_simp) k9 ?_
      conv => arg 8; simp only [Act.put, List.setIfInBounds_toArray, List.set_cons_zero, List.set_cons_succ]
      refine rg_take 7 (d := (some 2)) (v := .pointer (some ⟨g, 0, none⟩)) (by decide) rfl rfl (by kernel_rfl) (by kernel_rfl) (by kernel_rfl) (fun _ _ _ h => h) rfl (fun W => rfl) ?_
      conv => arg 8; simp only [Act.put, List.setIfInBounds_toArray, List.set_cons_zero, List.set_cons_succ]
      refine rg_done (by kernel_rfl) ?_
      go_wp2
      go_ret
      unfold BlankP
      rw [HC1.out, HC2.out]
      have hz := HZ.out
      have fg := alloc_at w3 (.cells #[.slice (some ⟨bd, 0, none⟩) n n, .slice (some ⟨bt, 0, none⟩) n n, .map (some m), .bool false, .int .i64 (-1)] 79)
      rw [eg] at fg
      exact ⟨g, bd, bt, m, rfl, by omega, by omega, by omega, by omega, by omega, by omega, by omega, by omega, by omega, by omega, fg, (k9.block _ (by omega) (fun x => x)).trans fbd, (k9.block _ (by omega) (fun x => x)).trans fbt, (k9.block _ (by omega) (fun x => x)).trans fm, kk.thenN k9⟩
    · have fm : (w1.alloc (.map #[] 0)).heap[w1.heap.size]? = some (.map #[] 0) := alloc_at _ _
      have s1 : (w1.alloc (.map #[] 0)).heap.size = w1.heap.size + 1 := by simp
      have k2 := (Kp.refl (fun _ => False) w1).alloc (.map #[] 0)
      refine rg_go (d := some 7) rfl rfl rfl (run_mkmap_op (h77 w1)) k2 ?_
      conv => arg 8; simp only [Act.put, List.setIfInBounds_toArray, List.set_cons_zero, List.set_cons_succ]
      generalize w1.alloc (.map #[] 0) = w2 at *
      obtain ⟨m, em⟩ : ∃ b, w1.heap.size = b := ⟨_, rfl⟩
      rw [em] at fm ⊢
      replace fbd := (k2.block _ (by omega) (fun x => x)).trans fbd
      replace kk := kk.thenN k2
      refine rg_step [3] (by kernel_rfl) (by simp) (fun i hi => ?_)
      obtain rfl : i = 3 := by simpa using hi
      have fbt : (w2.alloc (.cells C2 4)).heap[w2.heap.size]? = some (.cells C2 4) := alloc_at _ _
      have s2 : (w2.alloc (.cells C2 4)).heap.size = w2.heap.size + 1 := by simp
      have k3 := (Kp.refl (fun _ => False) w2).alloc (.cells C2 4)
      refine rg_go (d := some 6) rfl rfl rfl (run_mk_op (h76 w2)) k3 ?_
      conv => arg 8; simp only [Act.put, List.setIfInBounds_toArray, List.set_cons_zero, List.set_cons_succ]
      generalize w2.alloc (.cells C2 4) = w3 at *
      obtain ⟨bt, ebt⟩ : ∃ b, w2.heap.size = b := ⟨_, rfl⟩
      rw [ebt] at fbt ⊢
      replace fbd := (k3.block _ (by omega) (fun x => x)).trans fbd
      replace fm := (k3.block _ (by omega) (fun x => x)).trans fm
      replace kk := kk.thenN k3
      obtain ⟨g, eg⟩ : ∃ g, w3.heap.size = g := ⟨_, rfl⟩
      have HZ := Lib.hid (show w.heap.size ≤ bd ∧ w.heap.size ≤ bt ∧ w.heap.size ≤ m ∧ bd < g ∧ bt < g ∧ m < g ∧ bd ≠ bt ∧ bd ≠ m ∧ bt ≠ m from by omega)
      clear s0 s1 s2 z0 ebd ebt em
      refine rg_step [5] (by kernel_rfl) (by simp) (fun i hi => ?_)
      obtain rfl : i = 5 := by simpa using hi
      refine rg_go (d := some 8) (v := .agg #[.slice (some ⟨bd, 0, none⟩) n n, .slice (some ⟨bt, 0, none⟩) n n, .map (some m), .bool false, .int .i64 (-1)]) rfl rfl rfl (w' := w3) (by go_simp) (Kp.refl _ _) ?_
      conv => arg 8; simp only [Act.put, List.setIfInBounds_toArray, List.set_cons_zero, List.set_cons_succ]
      refine rg_step [6] (by kernel_rfl) (by simp) (fun i hi => ?_)
      obtain rfl : i = 6 := by simpa using hi
      have k9 := (Kp.refl (fun _ => False) w3).alloc (.cells #[.slice (some ⟨bd, 0, none⟩) n n, .slice (some ⟨bt, 0, none⟩) n n, .map (some m), .bool false, .int .i64 (-1)] 79)
      refine rg_go (d := some 9) (v := .pointer (some ⟨g, 0, none⟩)) rfl rfl rfl (w' := w3.alloc (.cells #[.slice (some ⟨bd, 0, none⟩) n n, .slice (some ⟨bt, 0, none⟩) n n, .map (some m), .bool false, .int .i64 (-1)] 79)) (by go_simp) k9 ?_
      conv => arg 8; simp only [Act.put, List.setIfInBounds_toArray, List.set_cons_zero, List.set_cons_succ]
      refine rg_take 7 (d := (some 2)) (v := .pointer (some ⟨g, 0, none⟩)) (by decide) rfl rfl (by kernel_rfl) (by kernel_rfl) (by kernel_rfl) (fun _ _ _ h => h) rfl (fun W => rfl) ?_
      conv => arg 8; simp only [Act.put, List.setIfInBounds_toArray, List.set_cons_zero, List.set_cons_succ]
      refine rg_done (by kernel_rfl) ?_
      go_wp2
      go_ret
      unfold BlankP
      rw [HC1.out, HC2.out]
      have hz := HZ.out
      have fg := alloc_at w3 (.cells #[.slice (some ⟨bd, 0, none⟩) n n, .slice (some ⟨bt, 0, none⟩) n n, .map (some m), .bool false, .int .i64 (-1)] 79)
      rw [eg] at fg
      exact ⟨g, bd, bt, m, rfl, by omega, by omega, by omega, by omega, by omega, by omega, by omega, by omega, by omega, by omega, fg, (k9.block _ (by omega) (fun x => x)).trans fbd, (k9.block _ (by omega) (fun x => x)).trans fbt, (k9.block _ (by omega) (fun x => x)).trans fm, kk.thenN k9⟩
  · have fbt : (w0.alloc (.cells C2 4)).heap[w0.heap.size]? = some (.cells C2 4) := alloc_at _ _
    have s0 : (w0.alloc (.cells C2 4)).heap.size = w0.heap.size + 1 := by simp
    have k1 := (Kp.refl (fun _ => False) w0).alloc (.cells C2 4)
    refine rg_go (d := some 6) rfl rfl rfl (run_mk_op (h76 w0)) k1 ?_
    conv => arg 8; simp only [Act.put, List.setIfInBounds_toArray, List.set_cons_zero, List.set_cons_succ]
    generalize w0.alloc (.cells C2 4) = w1 at *
    obtain ⟨bt, ebt⟩ : ∃ b, w0.heap.size = b := ⟨_, rfl⟩
    rw [ebt] at fbt ⊢
    have kk := d0.thenN k1
    refine rg_step [1, 4] (by kernel_rfl) (by simp) (fun i hi => ?_)
    simp only [List.mem_cons, List.not_mem_nil, or_false] at hi
    rcases hi with rfl | rfl
    · have fbd : (w1.alloc (.cells C1 85)).heap[w1.heap.size]? = some (.cells C1 85) := alloc_at _ _
      have s1 : (w1.alloc (.cells C1 85)).heap.size = w1.heap.size + 1 := by simp
      have k2 := (Kp.refl (fun _ => False) w1).alloc (.cells C1 85)
      refine rg_go (d := some 4) rfl rfl rfl (run_mk_op (h75 w1)) k2 ?_
      conv => arg 8; simp only [Act.put, List.setIfInBounds_toArray, List.set_cons_zero, List.set_cons_succ]
      generalize w1.alloc (.cells C1 85) = w2 at *
      obtain ⟨bd, ebd⟩ : ∃ b, w1.heap.size = b := ⟨_, rfl⟩
      rw [ebd] at fbd ⊢
      replace fbt := (k2.block _ (by omega) (fun x => x)).trans fbt
      replace kk := kk.thenN k2
      refine rg_step [4] (by kernel_rfl) (by simp) (fun i hi => ?_)
      obtain rfl : i = 4 := by simpa using hi
      have fm : (w2.alloc (.map #[] 0)).heap[w2.heap.size]? = some (.map #[] 0) := alloc_at _ _
      have s2 : (w2.alloc (.map #[] 0)).heap.size = w2.heap.size + 1 := by simp
      have k3 := (Kp.refl (fun _ => False) w2).alloc (.map #[] 0)
      refine rg_go (d := some 7) rfl rfl rfl (run_mkmap_op (h77 w2)) k3 ?_
      conv => arg 8; simp only [Act.put, List.setIfInBounds_toArray, List.set_cons_zero, List.set_cons_succ]
      generalize w2.alloc (.map #[] 0) = w3 at *
      obtain ⟨m, em⟩ : ∃ b, w2.heap.size = b := ⟨_, rfl⟩
      rw [em] at fm ⊢
      replace fbt := (k3.block _ (by omega) (fun x => x)).trans fbt
      replace fbd := (k3.block _ (by omega) (fun x => x)).trans fbd
      replace kk := kk.thenN k3
      obtain ⟨g, eg⟩ : ∃ g, w3.heap.size = g := ⟨_, rfl⟩
      have HZ := Lib.hid (show w.heap.size ≤ bd ∧ w.heap.size ≤ bt ∧ w.heap.size ≤ m ∧ bd < g ∧ bt < g ∧ m < g ∧ bd ≠ bt ∧ bd ≠ m ∧ bt ≠ m from by omega)
      clear s0 s1 s2 z0 ebd ebt em
      refine rg_step [5] (by kernel_rfl) (by simp) (fun i hi => ?_)
      obtain rfl : i = 5 := by simpa using hi
      refine rg_go (d := some 8) (v := .agg #[.slice (some ⟨bd, 0, none⟩) n n, .slice (some ⟨bt, 0, none⟩) n n, .map (some m), .bool false, .int .i64 (-1)]) rfl rfl rfl (w' := w3) (by go_simp) (Kp.refl _ _) ?_
      conv => arg 8; simp only [Act.put, List.setIfInBounds_toArray, List.set_cons_zero, List.set_cons_succ]
      refine rg_step [6] (by kernel_rfl) (by simp) (fun i hi => ?_)
      obtain rfl : i = 6 := by simpa using hi
      have k9 := (Kp.refl (fun _ => False) w3).alloc (.cells #[.slice (some ⟨bd, 0, none⟩) n n, .slice (some ⟨bt, 0, none⟩) n n, .map (some m), .bool false, .int .i64 (-1)] 79)
      refine rg_go (d := some 9) (v := .pointer (some ⟨g, 0, none⟩)) rfl rfl rfl (w' := w3.alloc (.cells #[.slice (some ⟨bd, 0, none⟩) n n, .slice (some ⟨bt, 0, none⟩) n n, .map (some m), .bool false, .int .i64 (-1)] 79)) (by go_simp) k9 ?_
      conv => arg 8; simp only [Act.put, List.setIfInBounds_toArray, List.set_cons_zero, List.set_cons_succ]
      refine rg_take 7 (d := (some 2)) (v := .pointer (some ⟨g, 0, none⟩)) (by decide) rfl rfl (by kernel_rfl) (by kernel_rfl) (by kernel_rfl) (fun _ _ _ h => h) rfl (fun W => rfl) ?_
      conv => arg 8; simp only [Act.put, List.setIfInBounds_toArray, List.set_cons_zero, List.set_cons_succ]
      refine rg_done (by kernel_rfl) ?_
      go_wp2
      go_ret
      unfold BlankP
      rw [HC1.out, HC2.out]
      have hz := HZ.out
      have fg := alloc_at w3 (.cells #[.slice (some ⟨bd, 0, none⟩) n n, .slice (some ⟨bt, 0, none⟩) n n, .map (some m), .bool false, .int .i64 (-1)] 79)
      rw [eg] at fg
      exact ⟨g, bd, bt, m, rfl, by omega, by omega, by omega, by omega, by omega, by omega, by omega, by omega, by omega, by omega, fg, (k9.block _ (by omega) (fun x => x)).trans fbd, (k9.block _ (by omega) (fun x => x)).trans fbt, (k9.block _ (by omega) (fun x => x)).trans fm, kk.thenN k9⟩
    · have fm : (w1.alloc (.map #[] 0)).heap[w1.heap.size]? = some (.map #[] 0) := alloc_at _ _
      have s1 : (w1.alloc (.map #[] 0)).heap.size = w1.heap.size + 1 := by simp
      have k2 := (Kp.refl (fun _ => False) w1).alloc (.map #[] 0)
      refine rg_go (d := some 7) rfl rfl rfl (run_mkmap_op (h77 w1)) k2 ?_
      conv => arg 8; simp only [Act.put, List.setIfInBounds_toArray, List.set_cons_zero, List.set_cons_succ]
      generalize w1.alloc (.map #[] 0) = w2 at *
      obtain ⟨m, em⟩ : ∃ b, w1.heap.size = b := ⟨_, rfl⟩
      rw [em] at fm ⊢
      replace fbt := (k2.block _ (by omega) (fun x => x)).trans fbt
      replace kk := kk.thenN k2
      refine rg_step [1] (by kernel_rfl) (by simp) (fun i hi => ?_)
      obtain rfl : i = 1 := by simpa using hi
      have fbd : (w2.alloc (.cells C1 85)).heap[w2.heap.size]? = some (.cells C1 85) := alloc_at _ _
      have s2 : (w2.alloc (.cells C1 85)).heap.size = w2.heap.size + 1 := by simp
      have k3 := (Kp.refl (fun _ => False) w2).alloc (.cells C1 85)
      refine rg_go (d := some 4) rfl rfl rfl (run_mk_op (h75 w2)) k3 ?_
      conv => arg 8; simp only [Act.put, List.setIfInBounds_toArray, List.set_cons_zero, List.set_cons_succ]
      generalize w2.alloc (.cells C1 85) = w3 at *
      obtain ⟨bd, ebd⟩ : ∃ b, w2.heap.size = b := ⟨_, rfl⟩
      rw [ebd] at fbd ⊢
      replace fbt := (k3.block _ (by omega) (fun x => x)).trans fbt
      replace fm := (k3.block _ (by omega) (fun x => x)).trans fm
      replace kk := kk.thenN k3
      obtain ⟨g, eg⟩ : ∃ g, w3.heap.size = g := ⟨_, rfl⟩
      have HZ := Lib.hid (show w.heap.size ≤ bd ∧ w.heap.size ≤ bt ∧ w.heap.size ≤ m ∧ bd < g ∧ bt < g ∧ m < g ∧ bd ≠ bt ∧ bd ≠ m ∧ bt ≠ m from by omega)
      clear s0 s1 s2 z0 ebd ebt em
      refine rg_step [5] (by kernel_rfl) (by simp) (fun i hi => ?_)
      obtain rfl : i = 5 := by simpa using hi
      refine rg_go (d := some 8) (v := .agg #[.slice (some ⟨bd, 0, none⟩) n n, .slice (some ⟨bt, 0, none⟩) n n, .map (some m), .bool false, .int .i64 (-1)]) rfl rfl rfl (w' := w3) (by go_simp) (Kp.refl _ _) ?_
      conv => arg 8; simp only [Act.put, List.setIfInBounds_toArray, List.set_cons_zero, List.set_cons_succ]
      refine rg_step [6] (by kernel_rfl) (by simp) (fun i hi => ?_)
      obtain rfl : i = 6 := by simpa using hi
      have k9 := (Kp.refl (fun _ => False) w3).alloc (.cells #[.slice (some ⟨bd, 0, none⟩) n n, .slice (some ⟨bt, 0, none⟩) n n, .map (some m), .bool false, .int .i64 (-1)] 79)
      refine rg_go (d := some 9) (v := .pointer (some ⟨g, 0, none⟩)) rfl rfl rfl (w' := w3.alloc (.cells #[.slice (some ⟨bd, 0, none⟩) n n, .slice (some ⟨bt, 0, none⟩) n n, .map (some m), .bool false, .int .i64 (-1)] 79)) (by go_simp) k9 ?_
      conv => arg 8; simp only [Act.put, List.setIfInBounds_toArray, List.set_cons_zero, List.set_cons_succ]
      refine rg_take 7 (d := (some 2)) (v := .pointer (some ⟨g, 0, none⟩)) (by decide) rfl rfl (by kernel_rfl) (by kernel_rfl) (by kernel_rfl) (fun _ _ _ h => h) rfl (fun W => rfl) ?_
      conv => arg 8; simp only [Act.put, List.setIfInBounds_toArray, List.set_cons_zero, List.set_cons_succ]
      refine rg_done (by kernel_rfl) ?_
      go_wp2
      go_ret
      unfold BlankP
      rw [HC1.out, HC2.out]
      have hz := HZ.out
      have fg := alloc_at w3 (.cells #[.slice (some ⟨bd, 0, none⟩) n n, .slice (some ⟨bt, 0, none⟩) n n, .map (some m), .bool false, .int .i64 (-1)] 79)
      rw [eg] at fg
      exact ⟨g, bd, bt, m, rfl, by omega, by omega, by omega, by omega, by omega, by omega, by omega, by omega, by omega, by omega, fg, (k9.block _ (by omega) (fun x => x)).trans fbd, (k9.block _ (by omega) (fun x => x)).trans fbt, (k9.block _ (by omega) (fun x => x)).trans fm, kk.thenN k9⟩
  · have fm : (w0.alloc (.map #[] 0)).heap[w0.heap.size]? = some (.map #[] 0) := alloc_at _ _
    have s0 : (w0.alloc (.map #[] 0)).heap.size = w0.heap.size + 1 := by simp
    have k1 := (Kp.refl (fun _ => False) w0).alloc (.map #[] 0)
    refine rg_go (d := some 7) rfl rfl rfl (run_mkmap_op (h77 w0)) k1 ?_
    conv => arg 8; simp only [Act.put, List.setIfInBounds_toArray, List.set_cons_zero, List.set_cons_succ]
    generalize w0.alloc (.map #[] 0) = w1 at *
    obtain ⟨m, em⟩ : ∃ b, w0.heap.size = b := ⟨_, rfl⟩
    rw [em] at fm ⊢
    have kk := d0.thenN k1
    refine rg_step [1, 3] (by kernel_rfl) (by simp) (fun i hi => ?_)
    simp only [List.mem_cons, List.not_mem_nil, or_false] at hi
    rcases hi with rfl | rfl
    · have fbd : (w1.alloc (.cells C1 85)).heap[w1.heap.size]? = some (.cells C1 85) := alloc_at _ _
      have s1 : (w1.alloc (.cells C1 85)).heap.size = w1.heap.size + 1 := by simp
      have k2 := (Kp.refl (fun _ => False) w1).alloc (.cells C1 85)
      refine rg_go (d := some 4) rfl rfl rfl (run_mk_op (h75 w1)) k2 ?_
      conv => arg 8; simp only [Act.put, List.setIfInBounds_toArray, List.set_cons_zero, List.set_cons_succ]
      generalize w1.alloc (.cells C1 85) = w2 at *
      obtain ⟨bd, ebd⟩ : ∃ b, w1.heap.size = b := ⟨_, rfl⟩
      rw [ebd] at fbd ⊢
      replace fm := (k2.block _ (by omega) (fun x => x)).trans fm
      replace kk := kk.thenN k2
      refine rg_step [3] (by kernel_rfl) (by simp) (fun i hi => ?_)
      obtain rfl : i = 3 := by simpa using hi
      have fbt : (w2.alloc (.cells C2 4)).heap[w2.heap.size]? = some (.cells C2 4) := alloc_at _ _
      have s2 : (w2.alloc (.cells C2 4)).heap.size = w2.heap.size + 1 := by simp
      have k3 := (Kp.refl (fun _ => False) w2).alloc (.cells C2 4)
      refine rg_go (d := some 6) rfl rfl rfl (run_mk_op (h76 w2)) k3 ?_
      conv => arg 8; simp only [Act.put, List.setIfInBounds_toArray, List.set_cons_zero, List.set_cons_succ]
      generalize w2.alloc (.cells C2 4) = w3 at *
      obtain ⟨bt, ebt⟩ : ∃ b, w2.heap.size = b := ⟨_, rfl⟩
      rw [ebt] at fbt ⊢
      replace fm := (k3.block _ (by omega) (fun x => x)).trans fm
      replace fbd := (k3.block _ (by omega) (fun x => x)).trans fbd
      replace kk := kk.thenN k3
      obtain ⟨g, eg⟩ : ∃ g, w3.heap.size = g := ⟨_, rfl⟩
      have HZ := Lib.hid (show w.heap.size ≤ bd ∧ w.heap.size ≤ bt ∧ w.heap.size ≤ m ∧ bd < g ∧ bt < g ∧ m < g ∧ bd ≠ bt ∧ bd ≠ m ∧ bt ≠ m from by omega)
      clear s0 s1 s2 z0 ebd ebt em
      refine rg_step [5] (by kernel_rfl) (by simp) (fun i hi => ?_)
      obtain rfl : i = 5 := by simpa using hi
      refine rg_go (d := some 8) (v := .agg #[.slice (some ⟨bd, 0, none⟩) n n, .slice (some ⟨bt, 0, none⟩) n n, .map (some m), .bool false, .int .i64 (-1)]) rfl rfl rfl (w' := w3) (by go_simp) (Kp.refl _ _) ?_
      conv => arg 8; simp only [Act.put, List.setIfInBounds_toArray, List.set_cons_zero, List.set_cons_succ]
      refine rg_step [6] (by kernel_rfl) (by simp) (fun i hi => ?_)
      obtain rfl : i = 6 := by simpa using hi
      have k9 := (Kp.refl (fun _ => False) w3).alloc (.cells #[.slice (some ⟨bd, 0, none⟩) n n, .slice (some ⟨bt, 0, none⟩) n n, .map (some m), .bool false, .int .i64 (-1)] 79)
      refine rg_go (d := some 9) (v := .pointer (some ⟨g, 0, none⟩)) rfl rfl rfl (w' := w3.alloc (.cells #[.slice (some ⟨bd, 0, none⟩) n n, .slice (some ⟨bt, 0, none⟩) n n, .map (some m), .bool false, .int .i64 (-1)] 79)) (by go_simp) k9 ?_
      conv => arg 8; simp only [Act.put, List.setIfInBounds_toArray, List.set_cons_zero, List.set_cons_succ]
      refine rg_take 7 (d := (some 2)) (v := .pointer (some ⟨g, 0, none⟩)) (by decide) rfl rfl (by kernel_rfl) (by kernel_rfl) (by kernel_rfl) (fun _ _ _ h => h) rfl (fun W => rfl) ?_
      conv => arg 8; simp only [Act.put, List.setIfInBounds_toArray, List.set_cons_zero, List.set_cons_succ]
      refine rg_done (by kernel_rfl) ?_
      go_wp2
      go_ret
      unfold BlankP
      rw [HC1.out, HC2.out]
      have hz := HZ.out
      have fg := alloc_at w3 (.cells #[.slice (some ⟨bd, 0, none⟩) n n, .slice (some ⟨bt, 0, none⟩) n n, .map (some m), .bool false, .int .i64 (-1)] 79)
      rw [eg] at fg
      exact ⟨g, bd, bt, m, rfl, by omega, by omega, by omega, by omega, by omega, by omega, by omega, by omega, by omega, by omega, fg, (k9.block _ (by omega) (fun x => x)).trans fbd, (k9.block _ (by omega) (fun x => x)).trans fbt, (k9.block _ (by omega) (fun x => x)).trans fm, kk.thenN k9⟩
    · have fbt : (w1.alloc (.cells C2 4)).heap[w1.heap.size]? = some (.cells C2 4) := alloc_at _ _
      have s1 : (w1.alloc (.cells C2 4)).heap.size = w1.heap.size + 1 := by simp
      have k2 := (Kp.refl (fun _ => False) w1).alloc (.cells C2 4)
      refine rg_go (d := some 6) rfl rfl rfl (run_mk_op (h76 w1)) k2 ?_
      conv => arg 8; simp only [Act.put, List.setIfInBounds_toArray, List.set_cons_zero, List.set_cons_succ]
      generalize w1.alloc (.cells C2 4) = w2 at *
      obtain ⟨bt, ebt⟩ : ∃ b, w1.heap.size = b := ⟨_, rfl⟩
      rw [ebt] at fbt ⊢
      replace fm := (k2.block _ (by omega) (fun x => x)).trans fm
      replace kk := kk.thenN k2
      refine rg_step [1] (by kernel_rfl) (by simp) (fun i hi => ?_)
      obtain rfl : i = 1 := by simpa using hi
      have fbd : (w2.alloc (.cells C1 85)).heap[w2.heap.size]? = some (.cells C1 85) := alloc_at _ _
      have s2 : (w2.alloc (.cells C1 85)).heap.size = w2.heap.size + 1 := by simp
      have k3 := (Kp.refl (fun _ => False) w2).alloc (.cells C1 85)
      refine rg_go (d := some 4) rfl rfl rfl (run_mk_op (h75 w2)) k3 ?_
      conv => arg 8; simp only [Act.put, List.setIfInBounds_toArray, List.set_cons_zero, List.set_cons_succ]
      generalize w2.alloc (.cells C1 85) = w3 at *
      obtain ⟨bd, ebd⟩ : ∃ b, w2.heap.size = b := ⟨_, rfl⟩
      rw [ebd] at fbd ⊢
      replace fm := (k3.block _ (by omega) (fun x => x)).trans fm
      replace fbt := (k3.block _ (by omega) (fun x => x)).trans fbt
      replace kk := kk.thenN k3
      obtain ⟨g, eg⟩ : ∃ g, w3.heap.size = g := ⟨_, rfl⟩
      have HZ := Lib.hid (show w.heap.size ≤ bd ∧ w.heap.size ≤ bt ∧ w.heap.size ≤ m ∧ bd < g ∧ bt < g ∧ m < g ∧ bd ≠ bt ∧ bd ≠ m ∧ bt ≠ m from by omega)
      clear s0 s1 s2 z0 ebd ebt em
      refine rg_step [5] (by kernel_rfl) (by simp) (fun i hi => ?_)
      obtain rfl : i = 5 := by simpa using hi
      refine rg_go (d := some 8) (v := .agg #[.slice (some ⟨bd, 0, none⟩) n n, .slice (some ⟨bt, 0, none⟩) n n, .map (some m), .bool false, .int .i64 (-1)]) rfl rfl rfl (w' := w3) (by go_simp) (Kp.refl _ _) ?_
      conv => arg 8; simp only [Act.put, List.setIfInBounds_toArray, List.set_cons_zero, List.set_cons_succ]
      refine rg_step [6] (by kernel_rfl) (by simp) (fun i hi => ?_)
      obtain rfl : i = 6 := by simpa using hi
      have k9 := (Kp.refl (fun _ => False) w3).alloc (.cells #[.slice (some ⟨bd, 0, none⟩) n n, .slice (some ⟨bt, 0, none⟩) n n, .map (some m), .bool false, .int .i64 (-1)] 79)
      refine rg_go (d := some 9) (v := .pointer (some ⟨g, 0, none⟩)) rfl rfl rfl (w' := w3.alloc (.cells #[.slice (some ⟨bd, 0, none⟩) n n, .slice (some ⟨bt, 0, none⟩) n n, .map (some m), .bool false, .int .i64 (-1)] 79)) (by go_simp) k9 ?_
      conv => arg 8; simp only [Act.put, List.setIfInBounds_toArray, List.set_cons_zero, List.set_cons_succ]
      refine rg_take 7 (d := (some 2)) (v := .pointer (some ⟨g, 0, none⟩)) (by decide) rfl rfl (by kernel_rfl) (by kernel_rfl) (by kernel_rfl) (fun _ _ _ h => h) rfl (fun W => rfl) ?_
      conv => arg 8; simp only [Act.put, List.setIfInBounds_toArray, List.set_cons_zero, List.set_cons_succ]
      refine rg_done (by kernel_rfl) ?_
      go_wp2
      go_ret
      unfold BlankP
      rw [HC1.out, HC2.out]
      have hz := HZ.out
      have fg := alloc_at w3 (.cells #[.slice (some ⟨bd, 0, none⟩) n n, .slice (some ⟨bt, 0, none⟩) n n, .map (some m), .bool false, .int .i64 (-1)] 79)
      rw [eg] at fg
      exact ⟨g, bd, bt, m, rfl, by omega, by omega, by omega, by omega, by omega, by omega, by omega, by omega, by omega, by omega, fg, (k9.block _ (by omega) (fun x => x)).trans fbd, (k9.block _ (by omega) (fun x => x)).trans fbt, (k9.block _ (by omega) (fun x => x)).trans fm, kk.thenN k9⟩
end Go.Proofs.Ythkbgbbejgpeaaa
