/- disk.Image: the walk. -/
import Derived.Test.YthkbgbbejgpeaaaDI
namespace Go.Proofs.Ythkbgbbejgpeaaa
open Go Go.RowKit
set_option maxRecDepth 100000

theorem u8Info : (Try.prog.info? 5).map (fun i => (i.zero, i.size, i.bytes)) = some (some (.int .u8 0), 1, 1) := by kernel_rfl
theorem run_copy_op {P : Program} {a : Act} {dst : Option Tmp} {t tn ty : TypeId} {s x : Operand} {pos : String} {af : Array Edge} {gd : Option (Nat × Bool)} {W w' : World} {vs vx v : Value} (h : (Builtin.copy_ #[t, tn] ty #[vs, vx]).run P W = .ok v w') (hs : a.eval s = vs) (hx : a.eval x = vx) :
    (execOp a.eval { dst := dst, op := .call { callee := .builtin .copy, args := #[s, x], argTypes := #[t, tn] }, type := ty, pos := pos, after := af, guard := gd }).run P W = .ok (.value v) w' := by
  unfold execOp
  simp only [resolve, invoke, builtin, Sem.run_bind, Sem.run_pure, Result.andThen_ok, List.map_toArray, List.map_cons, List.map_nil, hs, hx, h]
def ImgRel (w : World) (d : Dk) (i : Value) (wr : World) : Prop := ∃ j : Nat, i = .int .i64 (j : Int) ∧ j ≤ d.n ∧ OwC wr 5 1 (fun b => b = w.heap.size) (.slice (some ⟨w.heap.size, 0, none⟩) (d.n * 129) (d.n * 129)) (d.n * 129) (bvs (imgI d j)) ∧ KpN w wr
set_option maxHeartbeats 3200000 in
theorem dimage_c {w : World} {F : Nat → Prop} {g bd bt m k : Nat} {D : DataW Unit} {sl : Nat → Value} {d : Dk} (h : DiskM w F g bd bt m k D sl d) :
    Calls Try.prog 24 #[.pointer (some ⟨g, 0, none⟩)] w fun e w' => ∃ v, e = .returned v ∧ OwB w' 5 (Iv w.heap.size w'.heap.size) v (imageD d) ∧ KpN w w' := by
  have hn1 := h.n1
  have hn2 := h.n2
  have hmk0 := run_mk (t := 28) Try.underlying28 u8Info (d.n * 129) (by omega) (by omega) w
  have hcast : ((d.n * 129 : Nat) : Int) = (d.n : Int) * 129 := by omega
  rw [hcast] at hmk0
  obtain ⟨W1, hW1⟩ : ∃ W1, w.alloc (.cells (madeCells (Value.int .u8 0).cells (d.n * 129 * 1)) 5) = W1 := ⟨_, rfl⟩
  have ho : OwC W1 5 1 (fun b => b = w.heap.size) (.slice (some ⟨w.heap.size, 0, none⟩) (d.n * 129) (d.n * 129)) (d.n * 129) (bvs (imgI d 0)) := by
    have e : (madeCells (Value.int .u8 0).cells (d.n * 129 * 1)).toList = bvs (imgI d 0) := by
      rw [show (Value.int .u8 0).cells = #[.int .u8 0] from rfl]
      apply List.ext_getElem
      · simp [madeCells, imgI, bvs]
      · intro i h1 h2
        simp [madeCells, imgI, bvs, bv, Nat.mod_one]
    have := OwC.lit w 5 1 (d.n * 129) (madeCells (Value.int .u8 0).cells (d.n * 129 * 1)) (by simp only [maxLen]; omega) (by rw [size_madeCells])
    rw [e, hW1] at this
    exact this.wide (fun b _ hb => by have := hb.1; have := hb.2; omega)
  have k1 : KpN w W1 := by rw [← hW1]; exact (Kp.refl _ w).alloc _
  rw [hW1] at hmk0
  go_enter Try.func24, Try.ntmps24
  go_wp2_with fail
  refine (dmade_c h).mono ?_
  rintro e w1 ⟨rfl, rfl⟩
  have c0 := h.c0
  have h1 := h.keepN k1
  have c0' := h1.c0
  have HH := Lib.hid h
  clear hW1
  go_wp2_with fail
  go_loopw [21] (fun i wr => ImgRel w d i wr) (fun i _ => d.n - (intOf i).toNat)
  case atStart => exact ⟨0, rfl, by omega, ho, k1⟩
  case round =>
    obtain ⟨j, rfl, hj, hoj, kj⟩ := hrel
    by_cases hlt : j < d.n
    · have hdr := HH.out.keepN kj
      have cr0 := hdr.c0
      have cr1 := hdr.c1
      have ct := hdr.tor j hlt
      have HD := Lib.hid hdr
      have htf := hdr.tfz j
      by_cases hto : d.to j = true
      · rw [hto] at ct
        have hcell := hoj.cellAt (j * 129) (by omega)
        have hfz := hoj.frozenAt (j * 129)
        rw [List.getElem?_eq_getElem (by rw [bvs_length, imgI_len d HH.out.len j (by omega)]; omega)] at hcell
        generalize (bvs (imgI d j))[j * 129]'_ = cv at hcell
        have hst := (hoj.stored (j * 129) (bv 1))
        have kst := kp1_set (w := wr) (F := fun b => b = w.heap.size) rfl (j * 129) (bv 1)
        clear hdr
        go_wp2_with fail
        rw [← bvs_put, imgI_torn d HH.out.len j hlt hto] at hst
        exact ⟨⟨j + 1, rfl, by omega, hst, kj.trans kst (fun _ _ x => x) (fun b hb e => absurd e (by omega))⟩, by simp only [intOf]; omega⟩
      · have hto' : d.to j = false := by simpa using hto
        rw [hto'] at ct
        have hlen : (j + 1) * 129 - j * 129 = 129 := by omega
        have hdl := HH.out.len j hlt
        have hil := imgI_len d HH.out.len j (by omega)
        clear hdr
        go_wp2_with fail
        rw [hlen]
        refine rg_begin 99 (fun b => b = w.heap.size) (by kernel_rfl) (fun w3 d3 => ?_)
        have h3 := HD.out.keepN d3
        have ho3 := hoj.keepN d3
        have hst := OwB.laidOver (d.du j) (j * 129 + 1) w3 (imgI d j) ho3
        rw [imgI_good d HH.out.len j hlt hto'] at hst
        have kst := Kp.setCells w.heap.size (bvs (d.du j)) (j * 129 + 1) w3
        have hbl : (bvs (d.du j)).length = 128 := by rw [bvs_length, hdl]
        refine rg_take 0 (d := (some 43)) (v := .slice (some ⟨w.heap.size, j * 129, none⟩) 129 129) (by decide) rfl rfl (by kernel_rfl) (by kernel_rfl) (by kernel_rfl) (fun _ _ _ h => h) rfl (fun W => rfl) ?_
        conv => arg 8; simp only [Act.put, List.setIfInBounds_toArray, List.set_cons_zero, List.set_cons_succ]
        refine rg_take 1 (d := (some 44)) (v := .slice (some ⟨w.heap.size, j * 129 + 1, none⟩) 128 128) (by decide) rfl rfl (by kernel_rfl) (by kernel_rfl) (by kernel_rfl) (fun _ _ _ h => h) rfl (fun W => by go_simp) ?_
        conv => arg 8; simp only [Act.put, List.setIfInBounds_toArray, List.set_cons_zero, List.set_cons_succ]
        refine rg_take 2 (d := (some 45)) (v := .pointer (some ⟨g, 0, none⟩)) (by decide) rfl rfl (by kernel_rfl) (by kernel_rfl) (by kernel_rfl) (fun _ _ _ h => h) rfl (fun W => rfl) ?_
        conv => arg 8; simp only [Act.put, List.setIfInBounds_toArray, List.set_cons_zero, List.set_cons_succ]
        refine rg_take 3 (d := (some 46)) (v := .pointer (some ⟨g, 0, none⟩)) (by decide) rfl rfl (by kernel_rfl) (by kernel_rfl) (by kernel_rfl) (fun _ _ _ h => h) rfl (fun W => by go_simp) ?_
        conv => arg 8; simp only [Act.put, List.setIfInBounds_toArray, List.set_cons_zero, List.set_cons_succ]
        refine rg_take 4 (d := (some 47)) (v := .pointer (some ⟨g, 0, none⟩)) (by decide) rfl rfl (by kernel_rfl) (by kernel_rfl) (by kernel_rfl) (fun _ _ _ h => h) rfl (fun W => by go_simp) ?_
        conv => arg 8; simp only [Act.put, List.setIfInBounds_toArray, List.set_cons_zero, List.set_cons_succ]
        refine rg_read 5 (d := (some 48)) (v := .slice (some ⟨bd, 0, none⟩) d.n d.n) (by decide) (by kernel_rfl) (by kernel_rfl) rfl rfl (by kernel_rfl) (by kernel_rfl) (by kernel_rfl) (fun _ _ _ h => h) rfl (fun W hW => by have hc := (hW.cell (p := ⟨g, 0, none⟩) (h3.lt.1) (fun hh => by have := HH.out.lt.1; dsimp only at hh; omega)).trans (h3.c0); go_simp) ?_
        conv => arg 8; simp only [Act.put, List.setIfInBounds_toArray, List.set_cons_zero, List.set_cons_succ]
        refine rg_take 6 (d := (some 49)) (v := .int .i64 j) (by decide) rfl rfl (by kernel_rfl) (by kernel_rfl) (by kernel_rfl) (fun _ _ _ h => h) rfl (fun W => rfl) ?_
        conv => arg 8; simp only [Act.put, List.setIfInBounds_toArray, List.set_cons_zero, List.set_cons_succ]
        refine rg_take 7 (d := (some 50)) (v := .pointer (some ⟨bd, j * 128, none⟩)) (by decide) rfl rfl (by kernel_rfl) (by kernel_rfl) (by kernel_rfl) (fun _ _ _ h => h) rfl (fun W => by go_simp) ?_
        conv => arg 8; simp only [Act.put, List.setIfInBounds_toArray, List.set_cons_zero, List.set_cons_succ]
        refine rg_take 8 (d := (some 51)) (v := .slice (some ⟨bd, j * 128, none⟩) 128 128) (by decide) rfl rfl (by kernel_rfl) (by kernel_rfl) (by kernel_rfl) (fun _ _ _ h => h) rfl (fun W => by go_simp) ?_
        conv => arg 8; simp only [Act.put, List.setIfInBounds_toArray, List.set_cons_zero, List.set_cons_succ]
        refine rg_onlyW 9 (w' := w3.setCells w.heap.size (j * 129 + 1) (bvs (d.du j))) (d := (some 52)) (v := goInt (bvs (d.du j)).length) rfl rfl (by kernel_rfl) rfl (run_copy_op (run_copy_cells w3 _ _ _ 5 w.heap.size (j * 129 + 1) 128 128 ⟨bd, j * 128, none⟩ 128 128 (bvs (d.du j)) Try.underlying28 (by kernel_rfl) (by rw [hbl]; rfl) (h3.sec j hlt) (fun q hq => by rw [ho3.cellAt (j * 129 + 1 + q) (by omega), List.getElem?_eq_getElem (by rw [bvs_length, hil]; omega)]; rfl) (fun q _ => ho3.frozenAt _) (fun v hv => by obtain ⟨b, _, rfl⟩ := List.mem_map.1 hv; rfl)) rfl rfl) (kst) ?_
        conv => arg 8; simp only [Act.put, List.setIfInBounds_toArray, List.set_cons_zero, List.set_cons_succ]
        refine rg_done (by kernel_rfl) ?_
        have kjd := kj.thenN d3
        go_wp2
        exact ⟨⟨j + 1, rfl, by omega, hst, kjd.trans kst (fun _ _ x => x) (fun b hb e => absurd e (by omega))⟩, by simp only [intOf]; omega⟩
    · obtain rfl : j = d.n := by omega
      go_wp2_with fail
      go_ret
      have hL : (imageD d).length = d.n * 129 := by rw [← imgI_end]; exact imgI_len d HH.out.len d.n (Nat.le_refl _)
      rw [imgI_end] at hoj
      refine ⟨_, rfl, ?_, kj⟩
      unfold OwB
      rw [hL]
      exact hoj.wide (fun b hb e => by subst e; exact ⟨Nat.le_refl _, hb⟩)
end Go.Proofs.Ythkbgbbejgpeaaa
