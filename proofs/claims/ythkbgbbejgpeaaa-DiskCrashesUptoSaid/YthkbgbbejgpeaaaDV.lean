/- disk.Dirty: the walk. -/
import Derived.Test.YthkbgbbejgpeaaaDE
import Derived.Maps.OwnSet
namespace Go.Proofs.Ythkbgbbejgpeaaa
open Go Go.RowKit
set_option maxRecDepth 100000

theorem intInfo : (Try.prog.info? 3).map (fun i => (i.zero, i.size, i.bytes)) = some (some (.int .i64 0), 1, 8) := by kernel_rfl
/-- what Dirty tells -/
def DDirtyP (d : Dk) (w : World) (e : Ending) (w' : World) : Prop := ∃ v u, e = .returned (.tuple #[v, u]) ∧ OwC w' 3 1 (Iv w.heap.size w'.heap.size) v (dirtyD d).length ((dirtyD d).map fun (i : Nat) => Value.int .i64 (i : Int)) ∧
      OwC w' 3 1 (Iv w.heap.size w'.heap.size) u (dirtyD d).length ((dirtyD d).map fun (i : Nat) => Value.int .i64 ((d.ca i).length : Int)) ∧ KpN w w'
/-- .. the versions' list lies in newer memory than the sectors' -/
def DDirtyQ (d : Dk) (w : World) (e : Ending) (w' : World) : Prop := ∃ v u z, e = .returned (.tuple #[v, u]) ∧ OwC w' 3 1 (Iv w.heap.size z) v (dirtyD d).length ((dirtyD d).map fun (i : Nat) => Value.int .i64 (i : Int)) ∧
      OwC w' 3 1 (Iv z w'.heap.size) u (dirtyD d).length ((dirtyD d).map fun (i : Nat) => Value.int .i64 ((d.ca i).length : Int)) ∧ w.heap.size ≤ z ∧ z ≤ w'.heap.size ∧ KpN w w'
/-- the keys that have come -/
def DirtyRel (w : World) (m k : Nat) (D : DataW Unit) (d : Dk) (v : Value) (wr : World) : Prop :=
  ∃ left cnt, ∃ ks : List Int, MapRng wr m w.heap.size k D left cnt ∧ (∀ kl, left kl = true → Maps.has D kl = true) ∧ OwC wr 3 1 (fun b => w.heap.size < b) v ks.length (ks.map (Value.int .i64)) ∧ ks.Nodup ∧ ks.length + cnt ≤ 1000000000 ∧
    (∀ x, x ∈ ks ↔ ∃ i : Nat, x = i ∧ i < d.n ∧ d.ca i ≠ [] ∧ left (key i) = false) ∧ KpN w wr
set_option maxHeartbeats 3200000 in
theorem ddirty_q {w : World} {F : Nat → Prop} {g bd bt m k : Nat} {D : DataW Unit} {sl : Nat → Value} {d : Dk} (h : DiskM w F g bd bt m k D sl d) (hkm : k ≤ 1000000000) :
    Calls Try.prog 30 #[.pointer (some ⟨g, 0, none⟩)] w (DDirtyQ d w) := by
  have hsz : Maps.size D ≤ 1000000000 := Nat.le_trans h.map.size_le hkm
  go_enter Try.func30, Try.ntmps30
  go_wp2_with fail
  refine (dmade_c h).mono ?_
  rintro e w1 ⟨rfl, rfl⟩
  have c2 := h.c2
  have HH := Lib.hid h
  clear h
  go_wp2_with (first
    | (at_range; refine wpList_range_own _ rfl _ 77 rfl 3 75 intKeyed Try.underlying77 slDat m k _ rfl HH.out.map ?_; intro w3 hrg hg3 hs3)
    | fail)
  have k3 : KpN w w3 := ⟨hg3.os, hg3.tape, hg3.output, hg3.size, fun k hk _ => hg3.block k hk (by simp)⟩
  go_frame
  go_loopw [2] (fun v wr => DirtyRel w m k D d v wr) (fun _ wr => wr.rangeLeft m w.heap.size)
  case atStart => exact ⟨_, _, [], hrg, fun _ x => x, OwC.nil _ _ _ _, List.nodup_nil, by simpa using hsz, fun x => ⟨fun hx => by simp at hx, fun ⟨i, _, hi, hc, hl⟩ => by rw [(HH.out.dom _).2 ⟨i, hi, rfl, hc⟩] at hl; cases hl⟩, k3⟩
  case round =>
    obtain ⟨left, cnt, ks, hrgr, hsub, ho, hnd, hle, hmem, hk⟩ := hrel
    go_wp2_with (first
      | (at_next; refine wpList_next_ranges _ rfl _ rfl 3 intKeyed slDat (Value.int .i64) id (fun key kl hkey => by obtain ⟨x, rfl, _⟩ := Maps.keyOf_int_inv Try.underlying3 hkey; exact ⟨x, rfl⟩) (fun v y _ => ⟨v, rfl⟩) m w.heap.size k D left cnt rfl hrgr ?_ ?_)
      | fail)
    · intro _ hl0
      have hle : left = fun _ => false := funext hl0
      subst hle
      have hks : ∀ x, x ∈ ks ↔ x ∈ (dirtyD d).map Int.ofNat := fun x => by
        rw [hmem, List.mem_map]
        constructor
        · rintro ⟨i, rfl, h1, h2, _⟩
          exact ⟨i, (dirty_mem d i).2 ⟨h1, h2⟩, rfl⟩
        · rintro ⟨i, h1, rfl⟩
          exact ⟨i, rfl, ((dirty_mem d i).1 h1).1, ((dirty_mem d i).1 h1).2, rfl⟩
      have hsort := dirty_sort d ks hnd hks
      have hlen : ks.length = (dirtyD d).length := by
        have := congrArg List.length hsort
        rwa [List.length_mergeSort, List.length_map] at this
      obtain ⟨_, A, cp, hv, _, _⟩ := ho.reads
      subst hv
      have HL := Lib.hid (And.intro hlen hsort)
      clear hlen hsort hl0 hks hmem hnd hrgr hsub
      go_wp2_with fail
      refine (sort_c ho (by omega)).mono ?_
      rintro e ws ⟨rfl, os, ksrt⟩
      rw [HL.out.2, HL.out.1, List.map_map] at os
      have kws : KpN w ws := hk.fresh ksrt (fun b hb => by omega)
      rw [HL.out.1]
      obtain ⟨L, hL⟩ : ∃ L, (dirtyD d).length = L := ⟨_, rfl⟩
      rw [hL] at os ⊢
      have hLm : L ≤ 1000000000 := by have := HL.out.1; omega
      have HLL := Lib.hid hL
      clear hL ho ksrt hk hle
      go_wp2
      go_loopw [3, 27] (fun u j wr => ∃ q : Nat, q ≤ L ∧ j = .int .i64 q ∧ OwC wr 3 1 (fun b => ws.heap.size ≤ b) u q (((dirtyD d).take q).map fun (i : Nat) => Value.int .i64 ((d.ca i).length : Int)) ∧ KpN ws wr) (fun _ j _ => L - (intOf j).toNat)
      case atStart => exact ⟨0, Nat.zero_le _, rfl, OwC.nil _ _ _ _, Kp.refl _ _⟩
      case round =>
        obtain ⟨q, hq, rfl, ou, hkr⟩ := hrel
        by_cases hlt : q < L
        · obtain ⟨g1, cap1, hv1, -, -⟩ := os.form (by omega)
          injection hv1 with hA hn1 hc1
          subst hA hc1
          have hqd : q < (dirtyD d).length := by rw [HLL.out]; exact hlt
          obtain ⟨i, hi⟩ : ∃ i, (dirtyD d)[q] = i := ⟨_, rfl⟩
          have hm : i ∈ dirtyD d := by rw [← hi]; exact List.getElem_mem hqd
          have hin := ((dirty_mem d i).1 hm).1
          have hcell : wr.cell? ⟨g1, q, none⟩ = some (.int .i64 (i : Int)) := by
            have := (os.keepN hkr).cellAt q hlt
            rw [this]
            simp [hqd, hi]
          have hd := HH.out.keepN (kws.thenN hkr)
          obtain ⟨_, A', c', hv', _, _⟩ := (hd.own i hin).reads
          have hlk := hd.look i hin
          rw [hv'] at hlk
          have c2' := hd.c2
          obtain ⟨cl, hcl⟩ : ∃ cl, (d.ca i).length = cl := ⟨_, rfl⟩
          rw [hcl] at hlk
          have olit := (OwC.lit wr 3 1 1 #[.int .i64 (cl : Int)] (by simp [maxLen]) rfl).reads
          have kl4 : KpN wr (wr.alloc (.cells #[.int .i64 (cl : Int)] 3)) := (Kp.refl _ wr).alloc _
          obtain ⟨v', w5, r5, o5, k5, hat5⟩ := run_app (P := Try.prog) (t := 29) (ty := 29) (wr.alloc (.cells #[.int .i64 (cl : Int)] 3)) Try.underlying29 intInfo rfl (by omega) (ou.keepN kl4) olit (by intro u hu; simp at hu; subst hu; rfl) (by omega) (by omega)
          have k05 : KpN ws w5 := (hkr.thenN kl4).fresh k5 (fun b e => ou.fit _ e)
          have hz5 := hkr.size
          have hz4 := kl4.size
          have o6 : OwC w5 3 1 (fun b => ws.heap.size ≤ b) v' (q + 1) (((dirtyD d).take (q + 1)).map fun (i : Nat) => Value.int .i64 ((d.ca i).length : Int)) := by
            rw [List.take_succ_eq_append_getElem hqd, List.map_append, hi]
            have := o5.wide (G := fun b => ws.heap.size ≤ b) (fun b _ hb => by rcases hb with hb | hb; exact hb; have := hb.1; omega)
            simpa [hcl] using this
          have HI := Lib.hid (And.intro hi hcl)
          clear hi hcl hv' c2
          go_wp2_with (refine app_op r5 rfl rfl ?_)
          go_roundw
          case rel => exact ⟨q + 1, by omega, by go_num, o6, k05⟩
          case measure => exact meas_up hlt
        · have hqL : q = L := by omega
          subst hqL
          have hz5 := hkr.size
          have hz0 := kws.size
          go_wp2
          go_ret2
          refine ⟨_, _, ws.heap.size, rfl, ?_, ?_, hz0, hz5, kws.thenN hkr⟩
          · rw [HLL.out]
            exact ⟨(os.keepN hkr).own, fun b hb => ⟨by have := os.fit b hb; omega, os.lt b hb⟩⟩
          · rw [HLL.out]
            have := ou.wide (G := Iv ws.heap.size wr.heap.size) (fun b hb h => ⟨h, hb⟩)
            rwa [List.take_of_length_le (by rw [HLL.out]; omega)] at this
    · intro x c kl yd yp w4 cnt4 hkey hlk hv hat hrg4 hlt hg4 hs4 hen
      have k4 : Kp (fun b => b = w.heap.size) wr w4 := ⟨hg4.os, hg4.tape, hg4.output, hg4.size, fun k hk hne => hg4.block k hk (fun e => hne (Option.some.inj e))⟩
      obtain ⟨i, hi, hkl, hc⟩ := (HH.out.dom kl).1 (hsub kl hlk)
      subst hkl
      obtain ⟨x', ex, hkl, _⟩ := Maps.keyOf_int_inv Try.underlying3 hkey
      injection ex with _ ex
      injection hkl with _ hkl
      subst ex
      subst hkl
      have hnew : ((i : Nat) : Int) ∉ ks := fun hx => by
        obtain ⟨i', e, _, _, hl⟩ := (hmem _).1 hx
        obtain rfl : i = i' := Int.ofNat_inj.1 e
        rw [hlk] at hl
        cases hl
      have ho4 := ho.keep k4 (fun b hb e => by omega)
      have olit := (OwC.lit w4 3 1 1 #[.int .i64 (i : Int)] (by simp [maxLen]) rfl).reads
      have kl4 : KpN w4 (w4.alloc (.cells #[.int .i64 (i : Int)] 3)) := (Kp.refl _ w4).alloc _
      obtain ⟨v', w5, r5, o5, k5, hat5⟩ := run_app (P := Try.prog) (t := 29) (ty := 29) (w4.alloc (.cells #[.int .i64 (i : Int)] 3)) Try.underlying29 intInfo rfl (by omega) (ho4.keepN kl4) olit (by intro u hu; simp at hu; subst hu; rfl) (by omega) (by omega)
      have hr1 := hrgr.lt
      have hm1 := HH.out.lt.2.2.2
      have hz4 := kl4.size
      have hrg5 : MapRng w5 m w.heap.size k D (fun z => left z && !z.sameKey (key i)) cnt4 := ranges_kp (ranges_kp hrg4 kl4 (fun e => e) (fun e => e)) k5 (fun e => by have := ho.fit _ e; omega) (fun e => by have := ho.fit _ e; omega)
      have k05 : KpN w w5 := ((hk.trans k4 (fun _ _ x => x) (fun b hb e => absurd e (by omega))).thenN kl4).trans k5 (fun _ _ x => x) (fun b hb e => absurd (ho.fit _ e) (by omega))
      have o6 : OwC w5 3 1 (fun b => w.heap.size < b) v' (ks ++ [(i : Int)]).length ((ks ++ [(i : Int)]).map (Value.int .i64)) := by
        rw [List.length_append, List.map_append]
        exact o5.wide (fun b _ hb => by rcases hb with hb | hb; exact hb; have := hb.1; omega)
      have HS4 := Lib.hid hs4
      clear hs4
      go_wp2_with (refine app_op r5 rfl rfl ?_)
      go_roundw
      case rel =>
        refine ⟨_, cnt4, ks ++ [(i : Int)], hrg5, fun kl hkl => hsub kl (by simp at hkl; exact hkl.1), o6, ?_, ?_, ?_, k05⟩
        · exact List.nodup_append.2 ⟨hnd, by simp, fun a ha b hb e => hnew (by simp at hb; rw [← hb, ← e]; exact ha)⟩
        · simp; omega
        · intro x
          rw [List.mem_append, hmem]
          constructor
          · rintro (⟨i', rfl, h1, h2, h3⟩ | hx)
            · exact ⟨i', rfl, h1, h2, by simp [h3]⟩
            · obtain rfl : x = (i : Int) := by simpa using hx
              exact ⟨i, rfl, hi, hc, by simp [sameKey_key]⟩
          · rintro ⟨i', rfl, h1, h2, h3⟩
            by_cases hii : i' = i
            · exact .inr (by simp [hii])
            · exact .inl ⟨i', rfl, h1, h2, by simpa [sameKey_key, hii] using h3⟩
      case measure => rw [hrg5.left_eq, hrgr.left_eq]; omega
theorem ddirty_c {w : World} {F : Nat → Prop} {g bd bt m k : Nat} {D : DataW Unit} {sl : Nat → Value} {d : Dk} (h : DiskM w F g bd bt m k D sl d) (hkm : k ≤ 1000000000) :
    Calls Try.prog 30 #[.pointer (some ⟨g, 0, none⟩)] w (DDirtyP d w) := by
  refine (ddirty_q h hkm).mono ?_
  rintro e w' ⟨v, u, z, rfl, h1, h2, hz1, hz2, k⟩
  exact ⟨v, u, rfl, h1.wide (fun b _ hb => ⟨hb.1, by have := hb.2; omega⟩), h2.wide (fun b _ hb => ⟨by have := hb.1; omega, hb.2⟩), k⟩
end Go.Proofs.Ythkbgbbejgpeaaa
