/- disk.Flush: the walk. -/
import Derived.Test.YthkbgbbejgpeaaaDF
namespace Go.Proofs.Ythkbgbbejgpeaaa
open Go Go.RowKit
set_option maxRecDepth 100000

abbrev MapRng (w : World) (m r k : Nat) (D : DataW Unit) (left : Lit → Bool) (cnt : Nat) : Prop := w.ranges Try.prog 3 slDat m r k D left cnt
theorem run_clear_op {P : Program} {a : Act} {dst : Option Tmp} {t ty k e : TypeId} {x : Operand} {pos : String} {af : Array Edge} {gd : Option (Nat × Bool)} {w : World} {m clock : Nat} {es : Array MapEntry} (ht : P.underlying t = some (.map k e)) (hb : w.heap[m]? = some (.map es clock)) (hx : a.eval x = .map (some m)) :
    (execOp a.eval { dst := dst, op := .call { callee := .builtin .clear, args := #[x], argTypes := #[t] }, type := ty, pos := pos, after := af, guard := gd }).run P w = .ok (.value (.tuple #[])) { w with heap := w.heap.setIfInBounds m (.map #[] clock) } := by
  have h := run_clear ht hb
  have h2 : Builtin.clear_ #[t] ty #[.map (some m)] = Builtin.clear_ #[t] 0 #[.map (some m)] := rfl
  unfold execOp
  simp only [resolve, invoke, builtin, Sem.run_bind, Sem.run_pure, Result.andThen_ok, List.map_toArray, List.map_cons, List.map_nil, hx, h2, h]
theorem ranges_kp {w w' : World} {m r k : Nat} {D : DataW Unit} {left : Lit → Bool} {cnt : Nat} {S : Nat → Prop} (h : MapRng w m r k D left cnt) (kp : Kp S w w') (hm : ¬ S m) (hr : ¬ S r) : MapRng w' m r k D left cnt := by
  have h1 := h.owns.lt
  have h2 := h.lt
  obtain ⟨es, clock, since, seen, c0, hb, Fi, hs, hD, hr', rest⟩ := h
  exact ⟨es, clock, since, seen, c0, (kp.block m h1 hm).trans hb, Fi, hs, hD, (kp.block r h2 hr).trans hr', rest⟩
/-- the world where the range stands -/
def FlushRel (w2 : World) (F : Nat → Prop) (g bd bt m k : Nat) (D : DataW Unit) (sl : Nat → Value) (d : Dk) (wr : World) : Prop :=
  ∃ left cnt, MapRng wr m w2.heap.size k D left cnt ∧ (∀ kl, left kl = true → Maps.has D kl = true) ∧ DiskM wr (fun b => F b ∧ b < w2.heap.size) g bd bt m k D sl (flushI d left) ∧ Kp F w2 wr
def DFlushP (w : World) (F : Nat → Prop) (g bd bt m k : Nat) (r : Nat × Dk) (e : Ending) (w' : World) : Prop := e = .returned (.int .i64 (r.1 : Int)) ∧ (∃ D' sl', DiskM w' F g bd bt m k D' sl' r.2) ∧ Kp F w w'
set_option maxHeartbeats 3200000 in
theorem dflush_c {w : World} {F : Nat → Prop} {g bd bt m k : Nat} {D : DataW Unit} {sl : Nat → Value} {d : Dk} (h : DiskM w F g bd bt m k D sl d) :
    Calls Try.prog 40 #[.pointer (some ⟨g, 0, none⟩)] w (DFlushP w F g bd bt m k (flushD d)) := by
  have hFg := h.fit.1
  obtain ⟨f1, f2, f3, f4⟩ := h.fit
  go_enter Try.func40, Try.ntmps40
  go_wp2_with fail
  refine (dmade_c h).mono ?_
  rintro e w1 ⟨rfl, rfl⟩
  go_wp2_with fail
  refine (goes_c h).mono ?_
  rintro e w2 ⟨rfl, h2, k2⟩
  have k2F : Kp F w w2 := k2.mono (fun b _ e => by rw [e]; exact hFg)
  obtain ⟨ok, hok⟩ : ∃ ok, (goesD d).1 = ok := ⟨_, rfl⟩
  rw [hok]
  rcases ok with _ | _
  · have hr : flushD d = (5, (goesD d).2) := by rw [flushD, if_pos hok]
    have HR := Lib.hid hr
    clear hr hok
    go_wp2
    go_ret
    rw [HR.out]
    exact ⟨rfl, ⟨D, sl, h2⟩, k2F⟩
  · have hr : flushD d = (0, bareD (flushI (goesD d).2 (fun _ => false))) := by rw [flushD, if_neg (by rw [hok]; simp)]
    have HR := Lib.hid hr
    generalize (goesD d).2 = d2 at *
    clear hr hok
    have c2 := h2.c2
    have HH2 := Lib.hid h2
    clear h2
    go_wp2_with (first
      | (at_range; refine wpList_range_own _ rfl _ 77 rfl 3 75 intKeyed Try.underlying77 slDat m k _ rfl HH2.out.map ?_; intro w3 hrg hg3 hs3)
      | fail)
    have k3 : KpN w2 w3 := ⟨hg3.os, hg3.tape, hg3.output, hg3.size, fun k hk _ => hg3.block k hk (by simp)⟩
    have hd3 := ((HH2.out.wide (G := fun b => F b ∧ b < w2.heap.size) (fun b hb hF => ⟨hF, hb⟩)).keepN k3)
    have hst := flushI_start d2 (Maps.has D) (fun i hi hc => (HH2.out.dom _).2 ⟨i, hi, rfl, hc⟩)
    have hn2 := HH2.out.n2
    have hm2 := HH2.out.lt
    go_frame
    go_loopw [3, 4] (fun _ _ wr => FlushRel w2 F g bd bt m k D sl d2 wr) (fun _ _ wr => wr.rangeLeft m w2.heap.size)
    case atStart => exact ⟨_, _, hrg, fun _ x => x, by rw [hst]; exact hd3, (Kp.refl F w2).thenN k3⟩
    case round =>
      obtain ⟨left, cnt, hrgr, hsub, hd, hk⟩ := hrel
      go_wp2_with (first
        | (at_next; refine wpList_next_ranges _ rfl _ rfl 3 intKeyed slDat (Value.int .i64) id (fun key kl hkey => by obtain ⟨x, rfl, _⟩ := Maps.keyOf_int_inv Try.underlying3 hkey; exact ⟨x, rfl⟩) (fun v y _ => ⟨v, rfl⟩) m w2.heap.size k D left cnt rfl hrgr ?_ ?_)
        | fail)
      · intro _ hl0
        have hle : left = fun _ => false := funext hl0
        rw [hle] at hd
        have cd2 := hd.c2
        obtain ⟨es, clock, hbm, -⟩ := hd.map
        have hd5 := (hd.cleared hbm).wide (G := F) (fun _ _ x => x.1)
        have k5 := kp_block (w := wr) (m := m) (.map #[] clock)
        clear c2
        go_wp2_with (first
          | ((with_reducible show wpList _ _ _ (Oper.mk _ (Op.call _) _ _ _ _ :: _) _ _); refine wpl_val rfl (run_clear_op Try.underlying77 hbm rfl) ?_)
          | fail)
        go_ret
        rw [HR.out]
        exact ⟨rfl, ⟨_, _, hd5⟩, (k2F.trans hk (fun _ _ x => x) (fun _ _ x => x)).trans k5 (fun _ _ x => x) (fun b _ hb => by rw [hb]; exact f4)⟩
      · intro x c kl yd yp w4 cnt4 hkey hlk hv hat hrg4 hlt hg4 hs4 hen
        have k4 : Kp (fun b => b = w2.heap.size) wr w4 := ⟨hg4.os, hg4.tape, hg4.output, hg4.size, fun k hk hne => hg4.block k hk (fun e => hne (Option.some.inj e))⟩
        have hd4 := hd.keep k4 (fun i hi e => by have := hi.2; omega)
        obtain ⟨i, hi, hkl, hc⟩ := (hd.dom kl).1 (hsub kl hlk)
        subst hkl
        obtain ⟨x', ex, hkl, _⟩ := Maps.keyOf_int_inv Try.underlying3 hkey
        injection ex with _ ex
        injection hkl with _ hkl
        subst ex
        subst hkl
        have hce : c = sl i := slDat_inj hv (hd.own i hi).isRow ((hat .nil).symm.trans (hd.at_ i hi))
        subst hce
        have hi2 : i < d2.n := hi
        have hc2 : d2.ca i ≠ [] := hc
        obtain ⟨M, hM⟩ : ∃ M, (d2.ca i).length = M + 1 := by
          rcases hq : d2.ca i with _ | ⟨x, r⟩
          · exact absurd hq hc2
          · exact ⟨r.length, by simp⟩
        have hown : OwC w4 85 128 _ (sl i) (d2.ca i).length ((d2.ca i).flatMap bvs) := hd4.own i hi
        obtain ⟨gv, cv, hsl, -, hcv⟩ := hown.form (by omega)
        rw [hM] at hsl hcv hown
        rw [hsl] at hown hen
        have hMb := hown.bound
        have hcl : ∀ s ∈ d2.ca i, s.length = 128 := hd4.clen i hi
        obtain ⟨s, hs⟩ : ∃ s, (d2.ca i)[M]'(by omega) = s := ⟨_, rfl⟩
        have hs128 : s.length = 128 := by rw [← hs]; exact hcl _ (List.getElem_mem _)
        have hlast : (d2.ca i).getLast? = some s := by
          rw [List.getLast?_eq_getElem?, hM, Nat.add_sub_cancel, List.getElem?_eq_getElem (by omega), hs]
        have hrow2 := hown.rowAt (M * 128) (bvs s) (fun t v hv => flat_at _ hcl M (by omega) t v (by rw [hs]; exact hv))
        have hld2 := run_loadAt_rowat (P := Try.prog) hrow2 Try.underlying85 rfl (secSize _ (by simp [bvs, hs128]))
        have HS := Lib.hid (And.intro hlast hs128)
        have HHd := Lib.hid hd4
        clear hrow2 hcl hs hlast hs128 hown hcv
        go_wp2_with (first
          | ((with_reducible show wpList _ _ _ (Oper.mk _ (Op.load 85 _) _ _ _ _ :: _) _ _); refine wpl_val rfl (run_load_opv hld2 rfl) ?_)
          | fail)
        refine (settle_c i hi s HS.out.2 false HHd.out).mono ?_
        rintro e w5 ⟨rfl, h5, k5⟩
        rw [flushI_step d2 left i hi2 hc2 s HS.out.1] at h5
        have hne := HHd.out.ne
        have hrg5 := ranges_kp hrg4 k5 (by rintro (x | x) <;> omega) (by rintro (x | x) <;> omega)
        go_wp2
        go_roundw
        case rel => exact ⟨_, cnt4, hrg5, fun kl hkl => hsub kl (by simp at hkl; exact hkl.1), h5, (hk.trans k4 (fun _ _ x => x) (fun b hb e => by omega)).trans k5 (fun _ _ x => x) (fun b _ hb => by rcases hb with rfl | rfl; exact f2; exact f3)⟩
        case measure => rw [hrg5.left_eq, hrgr.left_eq]; omega
end Go.Proofs.Ythkbgbbejgpeaaa
