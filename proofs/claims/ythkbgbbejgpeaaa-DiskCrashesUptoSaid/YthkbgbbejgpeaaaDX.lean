/- disk.Write: the call. -/
import Derived.Test.YthkbgbbejgpeaaaDW
namespace Go.Proofs.Ythkbgbbejgpeaaa
open Go Go.RowKit
set_option maxRecDepth 100000

theorem goesD_n (d : Dk) : (goesD d).2.n = d.n := by unfold goesD; split; rfl; split; rfl; split <;> rfl
theorem goesD_ca (d : Dk) : (goesD d).2.ca = d.ca := by unfold goesD; split; rfl; split; rfl; split <;> rfl
/-- what a Write tells, and the disk behind it -/
def writeD (d : Dk) (i : Int) (xs : List UInt8) : Nat × Dk :=
  if hasB d i = false ∨ xs.length ≠ 128 then (1, d) else if (goesD d).1 = false then (5, (goesD d).2)
  else (0, { (goesD d).2 with ca := upd (goesD d).2.ca i.toNat ((goesD d).2.ca i.toNat ++ [xs]) })
/-- a disk in memory, its footprint grown by new blocks at most -/
def DiskG (w w' : World) (F : Nat → Prop) (g bd bt m k : Nat) (d : Dk) : Prop := ∃ F' D sl, DiskM w' F' g bd bt m k D sl d ∧ (∀ b, F' b → F b ∨ Iv w.heap.size w'.heap.size b)
theorem foldSet (l : List Value) : ∀ (k : Nat) (cs : Array Value), k + l.length ≤ cs.size → ∀ i, ((l.zipIdx k).foldl (fun cs p => cs.setIfInBounds (0 + p.2) p.1) cs)[i]? = if k ≤ i ∧ i < k + l.length then l[i - k]? else cs[i]? := by
  induction l with
  | nil => intro k cs _ i; simp; omega
  | cons c r ih =>
    intro k cs hk i
    rw [List.length_cons] at hk
    rw [List.zipIdx_cons, List.foldl_cons, ih (k + 1) _ (by simp; omega) i]
    simp only [Nat.zero_add]
    by_cases h1 : k + 1 ≤ i ∧ i < k + 1 + r.length
    · rw [if_pos h1, if_pos (by simp; omega)]
      have : i - k = (i - (k + 1)) + 1 := by omega
      rw [this, List.getElem?_cons_succ]
    · rw [if_neg h1]
      by_cases h2 : i = k
      · subst h2
        rw [if_pos (by simp), Array.getElem?_setIfInBounds_self_of_lt (by omega)]
        simp
      · rw [if_neg (by simp; omega), Array.getElem?_setIfInBounds_ne (fun e => h2 e.symm)]
theorem fill_one (C T : Array Value) (hC : C.size = 128) (hT : T.size = 128) : Instr.fill (fun i => some (i * 128, 128)) C [(0, .agg T)] = some T := by
  have hf : T.zipIdx.foldl (fun cs (p : Value × Nat) => cs.setIfInBounds (0 + p.2) p.1) C = T := by
    rw [← Array.foldl_toList, Array.toList_zipIdx]
    apply Array.ext_getElem?
    intro i
    rw [foldSet T.toList 0 C (by simp; omega) i]
    split
    · simp
    · rename_i h
      rw [Array.getElem?_eq_none (by simp at h; omega), Array.getElem?_eq_none (by simp at h; omega)]
  unfold Instr.fill
  simp only [Value.cells, hT, hC, Nat.zero_mul]
  simp only [ne_eq, not_true_eq_false, decide_false, Nat.zero_add, gt_iff_lt, Nat.lt_irrefl, Bool.or_self, Bool.false_eq_true, if_false]
  unfold Instr.fill
  simp only [Nat.zero_add] at hf
  rw [hf]
theorem run_lit {T : Array Value} (hT : T.size = 128) (w : World) : (Instr.buildSlice 75 1 #[(0, .agg T)]).run Try.prog w = .ok (.slice (some ⟨w.heap.size, 0, none⟩) 1 1) (w.alloc (.cells T 85)) := by
  obtain ⟨i0, hi, hzz, hs, hby⟩ := info_parts secInfo
  obtain ⟨Z, hZ⟩ : ∃ Z, Array.replicate 128 (Value.int .u8 0) = Z := ⟨_, rfl⟩
  have hZs : Z.size = 128 := by rw [← hZ]; simp
  have hz : ∀ W, (zeroValue 85).run Try.prog W = .ok (.agg Z) W := fun W => by rw [← hZ]; kernel_rfl
  have hf := fun C : Array Value => fun hC : C.size = 128 => fill_one C T hC hT
  have hse : (sizeOf 85).run Try.prog w = .ok 128 w := by simp [sizeOf, typeInfo, hi, hs]
  unfold Instr.buildSlice
  simp only [Sem.run_bind, run_underlying Try.underlying75, Result.andThen_ok, hse]
  rw [if_neg (by decide), if_neg (by decide)]
  simp only [Sem.run_bind, hz, Result.andThen_ok, Sem.run_pure, Value.cells]
  rw [hf _ (by simp)]
  simp [newRow]
theorem run_lit_op {T : Array Value} (hT : T.size = 128) (w : World) {a : Act} {dst : Option Tmp} {ty : TypeId} {x : Operand} {pos : String} {af : Array Edge} {gd : Option (Nat × Bool)} (hx : a.eval x = .agg T) :
    (execOp a.eval { dst := dst, op := .buildSlice 75 1 #[(0, x)], type := ty, pos := pos, after := af, guard := gd }).run Try.prog w = .ok (.value (.slice (some ⟨w.heap.size, 0, none⟩) 1 1)) (w.alloc (.cells T 85)) := by
  unfold execOp
  simp only [List.map_toArray, List.map_cons, List.map_nil, hx, Sem.run_bind, run_lit hT w, Result.andThen_ok, Sem.run_pure]
theorem run_arr_op {t e : TypeId} {n : Nat} (ht : Try.prog.underlying t = some (.array n e)) {A : Option Addr} {len c : Nat} (hn : n ≤ len) {W : World} {a : Act} {dst : Option Tmp} {ty : TypeId} {x : Operand} {pos : String} {af : Array Edge} {gd : Option (Nat × Bool)} (hx : a.eval x = .slice A len c) :
    (execOp a.eval { dst := dst, op := .sliceToArrayPointer t x, type := ty, pos := pos, after := af, guard := gd }).run Try.prog W = .ok (.value (.pointer A)) W := by
  have hr : (Instr.arrayAt t (.slice A len c)).run Try.prog W = .ok (.pointer A) W := by
    unfold Instr.arrayAt
    simp only [Sem.run_bind, run_underlying ht, Result.andThen_ok]
    rw [if_neg (by omega)]
    simp
  unfold execOp
  simp only [hx, Sem.run_bind, hr, Result.andThen_ok, Sem.run_pure]
theorem RdB.rowAt {w : World} {ad : Addr} {n c : Nat} {xs : List UInt8} (h : RdB w (.slice (some ad) n c) xs) : RowAt w ad (bvs xs) := fun j v hj => by
  obtain ⟨_, A, c', hv, _, hr⟩ := h
  injection hv with h1
  subst h1
  obtain ⟨ad', he, hc⟩ := hr j v hj
  injection he with he
  subst he
  exact hc
theorem DiskM.lookK {w W : World} {F S : Nat → Prop} {g bd bt m k : Nat} {D : DataW Unit} {sl : Nat → Value} {d : Dk} (h : DiskM w F g bd bt m k D sl d) (i : Nat) (hi : i < d.n) (kp : Kp S w W) (hs : ¬ S m) : (Instr.lookup 77 (.map (some m)) (.int .i64 (i : Int)) false).run Try.prog W = .ok (sl i) W := by
  have hn := h.n2
  have hm : W.ownsMap Try.prog 3 slDat m k D := by
    obtain ⟨es, clock, hb, rest⟩ := h.map
    exact ⟨es, clock, (kp.block m h.lt.2.2.2 hs).trans hb, rest⟩
  obtain ⟨v, ps, hrun, hv⟩ := hm.lookup intKeyed Try.underlying77 (zeroRows W) (zd := .nil) (zp := []) rfl (Maps.keyOf_int_mk Try.underlying3 (key_wf i (by omega)))
  rw [h.at_ i hi] at hv
  rw [hrun, slDat_inj hv (h.own i hi).isRow rfl]
def DWriteP (w : World) (F : Nat → Prop) (g bd bt m k : Nat) (r : Nat × Dk) (e : Ending) (w' : World) : Prop := e = .returned (.int .i64 (r.1 : Int)) ∧ (∃ k', k' ≤ k + 1 ∧ DiskG w w' F g bd bt m k' r.2) ∧ Kp F w w'
theorem DiskM.g {w w' : World} {F : Nat → Prop} {g bd bt m k : Nat} {D : DataW Unit} {sl : Nat → Value} {d : Dk} (h : DiskM w' F g bd bt m k D sl d) : DiskG w w' F g bd bt m k d := ⟨F, D, sl, h, fun _ hb => .inl hb⟩
set_option maxHeartbeats 3200000 in
theorem dwrite_c {w : World} {F : Nat → Prop} {g bd bt m k : Nat} {D : DataW Unit} {sl : Nat → Value} {d : Dk} {i : Int} {v : Value} {xs : List UInt8} (h : DiskM w F g bd bt m k D sl d) (hb : RdB w v xs) (hbF : ∀ b, v.ownBlock = some b → ¬ F b) (hi : -9223372036854775808 ≤ i ∧ i ≤ 9223372036854775807) (hk : k < 1000000000000) :
    Calls Try.prog 27 #[.pointer (some ⟨g, 0, none⟩), .int .i64 i, v] w (DWriteP w F g bd bt m k (writeD d i xs)) := by
  obtain ⟨A, c, rfl, hc⟩ := hb.form
  have hFg := h.fit.1
  go_enter Try.func27, Try.ntmps27
  by_cases hh : 0 ≤ i ∧ i < (d.n : Int)
  · obtain ⟨j, rfl⟩ := Int.eq_ofNat_of_zero_le hh.1
    have hjn : j < d.n := by omega
    have hB : hasB d (j : Int) = true := by simp [hasB]; omega
    by_cases hl128 : xs.length = 128
    · rw [hl128] at hb hbF hc
      obtain ⟨ad, rfl⟩ : ∃ ad, A = some ad := by
        obtain ⟨ad, he, _⟩ := hb.at_ 0 (by omega)
        exact ⟨ad, he⟩
      have HB := Lib.hid hB
      have HL := Lib.hid hl128
      clear hB
      go_wp2_with fail
      refine (has_t h hjn).mono ?_
      rintro e w1 ⟨rfl, rfl⟩
      go_wp2_with fail
      refine (goes_c h).mono ?_
      rintro e w2 ⟨rfl, h2, k2⟩
      have k2F : Kp F w w2 := k2.mono (fun b _ e => by rw [e]; exact hFg)
      obtain ⟨ok, hok⟩ : ∃ ok, (goesD d).1 = ok := ⟨_, rfl⟩
      have HOK := Lib.hid hok
      rw [hok]
      clear hok
      rcases ok with _ | _
      · have hr : writeD d (j : Int) xs = (5, (goesD d).2) := by
          rw [writeD, if_neg (by rw [HB.out, HL.out]; simp), if_pos HOK.out]
        have HR := Lib.hid hr
        clear hr
        go_wp2
        go_ret
        rw [HR.out]
        exact ⟨rfl, ⟨k, by omega, h2.g⟩, k2F⟩
      · have hr : writeD d (j : Int) xs = (0, { (goesD d).2 with ca := upd (goesD d).2.ca j ((goesD d).2.ca j ++ [xs]) }) := by
          rw [writeD, if_neg (by rw [HB.out, HL.out]; simp), if_neg (by rw [HOK.out]; simp)]
          rfl
        have HR := Lib.hid hr
        have hj2 : j < (goesD d).2.n := by rw [goesD_n]; exact hjn
        generalize (goesD d).2 = d2 at *
        clear hr
        go_wp2_with fail
        refine rg_begin 16 (fun b => (sl j).ownBlock = some b) (by kernel_rfl) (fun w3 d3 => ?_)
        have h3 := h2.keepN d3
        have hb3 : RdB w3 (.slice (some ad) 128 c) xs := (hb.keep k2F hbF).keepN d3
        have hsj := h3.sepd j hj2
        have hown := h3.own j hj2
        have hcnt := h3.cnt j hj2
        have hlit : (bvs xs).toArray.size = 128 := by simp [bvs, HL.out]
        have kl : KpN w3 (w3.alloc (.cells (bvs xs).toArray 85)) := (Kp.refl _ _).alloc _
        have olit := (OwC.lit w3 85 128 1 (bvs xs).toArray (by simp [maxLen]) (by rw [hlit])).reads
        obtain ⟨v', w5, r5, o5, k5, hat⟩ := run_app (P := Try.prog) (t := 75) (ty := 75) (w3.alloc (.cells (bvs xs).toArray 85)) Try.underlying75 secInfo (by simp [Value.cells]) (by omega) (hown.keepN kl) olit (bvs_one xs) (by omega) (by omega)
        have hz4 := kl.size
        have hz5 := k5.size
        obtain ⟨w6, r6, h6, k6⟩ := h3.put (G := fun b => F b ∨ Iv w3.heap.size w5.heap.size b) hj2 HL.out kl k5 (o5.wide (fun b _ hb => by rcases hb with hb | hb; exact .inl hb; exact .inr ⟨by have := hb.1; omega, hb.2⟩)) (fun b hb => .inl hb) (by
          rcases hat with hat | hat
          · exact .inl hat
          · exact .inr (fun b hb => by rw [hat] at hb; injection hb with hb; omega)) hk
        refine rg_take 0 (d := (some 19)) (v := .pointer (some ⟨g, 0, none⟩)) (by decide) rfl rfl (by kernel_rfl) (by kernel_rfl) (by kernel_rfl) (fun _ _ _ h => h) rfl (fun W => rfl) ?_
        conv => arg 8; simp only [Act.put, List.setIfInBounds_toArray, List.set_cons_zero, List.set_cons_succ]
        refine rg_take 1 (d := (some 20)) (v := .pointer (some ⟨g, 0, none⟩)) (by decide) rfl rfl (by kernel_rfl) (by kernel_rfl) (by kernel_rfl) (fun _ _ _ h => h) rfl (fun W => by go_simp) ?_
        conv => arg 8; simp only [Act.put, List.setIfInBounds_toArray, List.set_cons_zero, List.set_cons_succ]
        refine rg_take 2 (d := (some 21)) (v := .pointer (some ⟨g, 2, none⟩)) (by decide) rfl rfl (by kernel_rfl) (by kernel_rfl) (by kernel_rfl) (fun _ _ _ h => h) rfl (fun W => by go_simp) ?_
        conv => arg 8; simp only [Act.put, List.setIfInBounds_toArray, List.set_cons_zero, List.set_cons_succ]
        refine rg_read 3 (d := (some 22)) (v := .map (some m)) (by decide) (by kernel_rfl) (by kernel_rfl) rfl rfl (by kernel_rfl) (by kernel_rfl) (by kernel_rfl) (fun _ _ _ h => h) rfl (fun W hW => by have hc := (hW.cell (p := ⟨g, 2, none⟩) (h3.lt.1) (fun hh => (hsj _ hh).1 rfl)).trans (h3.c2); go_simp) ?_
        conv => arg 8; simp only [Act.put, List.setIfInBounds_toArray, List.set_cons_zero, List.set_cons_succ]
        refine rg_take 4 (d := (some 23)) (v := .int .i64 j) (by decide) rfl rfl (by kernel_rfl) (by kernel_rfl) (by kernel_rfl) (fun _ _ _ h => h) rfl (fun W => rfl) ?_
        conv => arg 8; simp only [Act.put, List.setIfInBounds_toArray, List.set_cons_zero, List.set_cons_succ]
        refine rg_take 5 (d := (some 24)) (v := .pointer (some ⟨g, 0, none⟩)) (by decide) rfl rfl (by kernel_rfl) (by kernel_rfl) (by kernel_rfl) (fun _ _ _ h => h) rfl (fun W => rfl) ?_
        conv => arg 8; simp only [Act.put, List.setIfInBounds_toArray, List.set_cons_zero, List.set_cons_succ]
        refine rg_take 6 (d := (some 25)) (v := .pointer (some ⟨g, 0, none⟩)) (by decide) rfl rfl (by kernel_rfl) (by kernel_rfl) (by kernel_rfl) (fun _ _ _ h => h) rfl (fun W => by go_simp) ?_
        conv => arg 8; simp only [Act.put, List.setIfInBounds_toArray, List.set_cons_zero, List.set_cons_succ]
        refine rg_take 7 (d := (some 26)) (v := .pointer (some ⟨g, 2, none⟩)) (by decide) rfl rfl (by kernel_rfl) (by kernel_rfl) (by kernel_rfl) (fun _ _ _ h => h) rfl (fun W => by go_simp) ?_
        conv => arg 8; simp only [Act.put, List.setIfInBounds_toArray, List.set_cons_zero, List.set_cons_succ]
        refine rg_read 8 (d := (some 27)) (v := .map (some m)) (by decide) (by kernel_rfl) (by kernel_rfl) rfl rfl (by kernel_rfl) (by kernel_rfl) (by kernel_rfl) (fun _ _ _ h => h) rfl (fun W hW => by have hc := (hW.cell (p := ⟨g, 2, none⟩) (h3.lt.1) (fun hh => (hsj _ hh).1 rfl)).trans (h3.c2); go_simp) ?_
        conv => arg 8; simp only [Act.put, List.setIfInBounds_toArray, List.set_cons_zero, List.set_cons_succ]
        refine rg_take 9 (d := (some 28)) (v := .int .i64 j) (by decide) rfl rfl (by kernel_rfl) (by kernel_rfl) (by kernel_rfl) (fun _ _ _ h => h) rfl (fun W => rfl) ?_
        conv => arg 8; simp only [Act.put, List.setIfInBounds_toArray, List.set_cons_zero, List.set_cons_succ]
        refine rg_read 10 (d := (some 29)) (v := sl j) (by decide) (by kernel_rfl) (by kernel_rfl) rfl rfl (by kernel_rfl) (by kernel_rfl) (by kernel_rfl) (fun _ _ _ h => h) rfl (fun W hW => by exact run_look_op (h3.lookK j hj2 hW (fun e => (hsj _ e).2.2.2 rfl)) rfl rfl) ?_
        conv => arg 8; simp only [Act.put, List.setIfInBounds_toArray, List.set_cons_zero, List.set_cons_succ]
        refine rg_take 11 (d := (some 30)) (v := .slice (some ad) 128 c) (by decide) rfl rfl (by kernel_rfl) (by kernel_rfl) (by kernel_rfl) (fun _ _ _ h => h) rfl (fun W => rfl) ?_
        conv => arg 8; simp only [Act.put, List.setIfInBounds_toArray, List.set_cons_zero, List.set_cons_succ]
        refine rg_take 12 (d := (some 31)) (v := .pointer (some ad)) (by decide) rfl rfl (by kernel_rfl) (by kernel_rfl) (by kernel_rfl) (fun _ _ _ h => h) rfl (fun W => run_arr_op Try.underlying85 (Nat.le_refl 128) rfl) ?_
        conv => arg 8; simp only [Act.put, List.setIfInBounds_toArray, List.set_cons_zero, List.set_cons_succ]
        refine rg_read 13 (d := (some 32)) (v := .agg (bvs xs).toArray) (by decide) (by kernel_rfl) (by kernel_rfl) rfl rfl (by kernel_rfl) (by kernel_rfl) (by kernel_rfl) (fun _ _ _ h => h) rfl (fun W hW => by exact run_load_op (hb3.rowAt.keep hW (fun e => hbF _ rfl (hown.fit _ e))) rfl Try.underlying85 rfl (secSize _ (by simp [bvs, HL.out]))) ?_
        conv => arg 8; simp only [Act.put, List.setIfInBounds_toArray, List.set_cons_zero, List.set_cons_succ]
        refine rg_onlyW 14 (w' := w3.alloc (.cells (bvs xs).toArray 85)) (d := (some 33)) (v := .slice (some ⟨w3.heap.size, 0, none⟩) 1 1) rfl rfl (by kernel_rfl) rfl (run_lit_op hlit w3 rfl) ((Kp.refl _ w3).alloc _) ?_
        conv => arg 8; simp only [Act.put, List.setIfInBounds_toArray, List.set_cons_zero, List.set_cons_succ]
        refine rg_onlyW 15 (w' := w5) (d := (some 34)) (v := v') rfl rfl (by kernel_rfl) rfl (run_append_op r5 rfl rfl) (k5) ?_
        conv => arg 8; simp only [Act.put, List.setIfInBounds_toArray, List.set_cons_zero, List.set_cons_succ]
        refine rg_lastS (G := fun _ => True) (w6) (d := none) rfl rfl (by kernel_rfl) rfl (run_upd_op r6 rfl rfl rfl) (by kernel_rfl) ?_
        conv => arg 8; simp only [Act.put, List.setIfInBounds_toArray, List.set_cons_zero, List.set_cons_succ]
        refine rg_done (by kernel_rfl) ?_
        have hz6 := k6.size
        go_wp2
        go_ret
        rw [HR.out]
        refine ⟨rfl, ⟨k + 1, by omega, _, _, _, h6, fun b hb => ?_⟩, ?_⟩
        · have := k2.size
          have := d3.size
          rcases hb with hb | hb
          · exact .inl hb
          · exact .inr ⟨by have := hb.1; omega, by have := hb.2; omega⟩
        · exact (((k2F.thenN d3).thenN kl).trans k5 (fun _ _ x => x) (fun b _ hb => hown.fit b hb)).trans k6 (fun _ _ x => x) (fun b _ hb => by rw [hb]; exact h3.fit.2.2.2)
    · have hr : writeD d (j : Int) xs = (1, d) := by rw [writeD, if_pos (.inr hl128)]
      have HR := Lib.hid hr
      have hli : ¬ (xs.length : Int) = 128 := by omega
      clear hr hB
      go_wp2_with fail
      refine (has_t h hjn).mono ?_
      rintro e w1 ⟨rfl, rfl⟩
      go_wp2
      go_ret
      rw [HR.out]
      exact ⟨rfl, ⟨k, by omega, h.g⟩, Kp.refl _ _⟩
  · have hB : hasB d i = false := by simp [hasB]; omega
    have hr : writeD d i xs = (1, d) := by rw [writeD, if_pos (.inl hB)]
    have HR := Lib.hid hr
    clear hr hB
    go_wp2_with fail
    refine (has_f h (by omega)).mono ?_
    rintro e w1 ⟨rfl, rfl⟩
    go_wp2
    go_ret
    rw [HR.out]
    exact ⟨rfl, ⟨k, by omega, h.g⟩, Kp.refl _ _⟩
end Go.Proofs.Ythkbgbbejgpeaaa
