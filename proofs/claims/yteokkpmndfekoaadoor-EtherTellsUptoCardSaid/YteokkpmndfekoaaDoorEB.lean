/- slices.Delete of one datagram. -/
import Derived.Test.YteokkpmndfekoaaDoorEA
namespace Go.Proofs.YteokkpmndfekoaaDoor
open Go Go.RowKit
set_option maxRecDepth 100000

theorem Kp.setCells (b : Nat) : ∀ (vs : List Value) (o : Nat) (w : World), Kp (fun i => i = b) w (w.setCells b o vs)
  | [], _, w => Kp.refl _ w
  | v :: r, o, w => ((Kp.refl (fun i => i = b) w).setCell (p := ⟨b, o, none⟩) (.inl rfl) v).trans (Kp.setCells b r (o + 1) _) (fun _ _ x => x) (fun _ _ x => x)
theorem dgInfo : (Tryd.prog.info? 68).map (fun i => (i.zero, i.size, i.bytes)) = some (some (.agg #[.bool false, .slice none 0 0]), 2, 32) := by kernel_rfl
/-- behind the cells of a row nothing is told of what is stored -/
theorem OwC.storedBehind {e size g n cap : Nat} {F : Nat → Prop} {cs : List Value} : ∀ (vs : List Value) (o : Nat) (w : World), cs.length ≤ o → OwC w e size F (.slice (some ⟨g, 0, none⟩) n cap) n cs → OwC (w.setCells g o vs) e size F (.slice (some ⟨g, 0, none⟩) n cap) n cs
  | [], _, _, _, h => h
  | v :: r, o, w, ho, h => by
    have h1 := (h.own.stored o v).1
    rw [List.set_eq_of_length_le ho] at h1
    exact OwC.storedBehind r (o + 1) _ (by omega) ⟨h1, h.fit⟩
/-- clear of the last one -/
theorem run_clear1 {w : World} {g o n c : Nat} {ty : TypeId} (hn : n = 1) (h : ∀ j, j < 2 → (w.cell? ⟨g, o + j, none⟩).isSome = true) (hf : ∀ j, j < 2 → w.frozen? ⟨g, o + j, none⟩ = false) :
    (Builtin.clear_ #[23] ty #[.slice (some ⟨g, o, none⟩) n c]).run Tryd.prog w = .ok (.tuple #[]) (w.setCells g o [.bool false, .slice none 0 0]) := by
  subst hn
  have hst := run_storeCells_cells (P := Tryd.prog) g o [.bool false, .slice none 0 0] 0 w (by simpa using h) (by simpa using hf) (by intro v hv; simp at hv; rcases hv with rfl | rfl <;> rfl)
  simp only [Nat.add_zero] at hst
  have hz : ∀ w, (zeroValue 68).run Tryd.prog w = .ok (.agg #[.bool false, .slice none 0 0]) w := fun w => by kernel_rfl
  have hzc : (Builtin.zeroCells (Value.agg #[.bool false, .slice none 0 0]).cells 1).toList = [.bool false, .slice none 0 0] := by kernel_rfl
  simp [Builtin.clear_, run_underlying Tryd.underlying23, hz, hzc, hst]
def DelP (w : World) (F : Nat → Prop) (g n cap i : Nat) (cs : List Value) (e : Ending) (w' : World) : Prop :=
  e = .returned (.slice (some ⟨g, 0, none⟩) (n - 1) cap) ∧ OwC w' 68 2 F (.slice (some ⟨g, 0, none⟩) (n - 1) cap) (n - 1) (cs.take (i * 2) ++ cs.drop ((i + 1) * 2)) ∧ Kp (fun k => k = g) w w'
set_option maxHeartbeats 3200000 in
theorem wdel_c {w : World} {F : Nat → Prop} {g n cap i j : Nat} {cs : List Value} (h : OwC w 68 2 F (.slice (some ⟨g, 0, none⟩) n cap) n cs) (h1 : ∀ u ∈ cs, u.oneCell' = true) (hi : i < n) (hj : j = i + 1) (hn : n ≤ 1000000) :
    Calls Tryd.prog 26 #[.slice (some ⟨g, 0, none⟩) n cap, .int .i64 (i : Int), .int .i64 (j : Int)] w (DelP w F g n cap i cs) := by
  obtain ⟨i0, hi0, hz, hs, hby⟩ := info_parts dgInfo
  have hl := h.own.1
  have hcap : n ≤ cap := by
    obtain ⟨g', c', hv, _, hc⟩ := h.form (by omega)
    injection hv with _ _ e3
    omega
  have hcm : cap ≤ 9223372036854775807 := by
    rcases h.own.2 with ⟨hv, _⟩ | ⟨g', cap', cur, hv, _, _, _, hm, _⟩
    · cases hv
    · injection hv with _ _ e3
      subst e3
      simpa [maxLen] using hm
  have key : ∀ w1, KpN w w1 → ∀ A, ((if cap = j then some (⟨g, 0, none⟩ : Addr) else some ⟨g, j * 2, none⟩) = some A) → ∃ w2, (Builtin.append_ #[23, 23] 23 #[.slice (some ⟨g, 0, none⟩) i cap, .slice (some A) (n - j) (cap - j)]).run Tryd.prog w1 = .ok (.slice (some ⟨g, 0, none⟩) (n - 1) cap) w2 ∧
      OwC w2 68 2 F (.slice (some ⟨g, 0, none⟩) (n - 1) cap) (n - 1) (cs.take (i * 2) ++ cs.drop ((i + 1) * 2)) ∧ Kp (fun k => k = g) w1 w2 ∧ (∀ k, k < 2 → (w2.cell? ⟨g, (n - 1) * 2 + k, none⟩).isSome = true) ∧ (∀ k, w2.frozen? ⟨g, k, none⟩ = false) := by
    intro w1 k1 A hA
    have hw := h.keepN k1
    rcases hw.own.2 with ⟨hv, _⟩ | ⟨g', cap', cur, hv, hb, hg, hnc, hm, hcs, htake⟩
    · cases hv
    · injection hv with e1 e2 e3
      injection e1 with e1
      injection e1 with e1
      subst e1 e3
      obtain ⟨news, hnews⟩ : ∃ news, cs.drop (j * 2) = news := ⟨_, rfl⟩
      have hnl : news.length = (n - j) * 2 := by rw [← hnews, List.length_drop, hl]; omega
      have hcell : ∀ t u, news[t]? = some u → w1.cell? (A.add t) = some u := by
        intro t u hu
        have ht : t < news.length := (List.getElem?_eq_some_iff.1 hu).1
        have hne : ¬ cap = j := by omega
        rw [if_neg hne] at hA
        injection hA with hA
        subst hA
        rw [← hnews, List.getElem?_drop] at hu
        have := hw.own.cells (g := g) rfl (j * 2 + t) u hu
        rwa [show (⟨g, 0, none⟩ : Addr).add (j * 2 + t) = (⟨g, j * 2, none⟩ : Addr).add t by rw [add_plain']; unfold Addr.add; split <;> simp_all] at this
      have hnone : ∀ u ∈ news, u.oneCell' = true := fun u hu => h1 u (by rw [← hnews] at hu; exact List.mem_of_mem_drop hu)
      have hcz : cur.toList.length = cap * 2 := by rw [Array.length_toList]; exact hcs
      have hr := run_append_room (P := Tryd.prog) (ty := 23) w1 23 68 i0 Tryd.underlying23 hi0 g i cap cur hg A (n - j) (cap - j) news (by rw [hs]; exact hnl) hcell hnone (by omega) (by rw [hs, hnl]; omega)
      rw [show i + (n - j) = n - 1 by omega, hs, hnl] at hr
      have hpre : cur.toList.take (i * 2) = cs.take (i * 2) := by rw [← htake, List.take_take]; congr 1; omega
      have hset := setRow_heap w1 g cur (cur.toList.take (i * 2) ++ news ++ cur.toList.drop (i * 2 + (n - j) * 2)).toArray 68 (0, 0) hg
      have hsz : (cur.toList.take (i * 2) ++ news ++ cur.toList.drop (i * 2 + (n - j) * 2)).length = cap * 2 := by
        rw [List.length_append, List.length_append, List.length_take, List.length_drop, hnl, hcz]; omega
      refine ⟨_, hr, ⟨⟨?_, .inr ⟨g, cap, _, rfl, hb, hset, by omega, hm, by rw [List.size_toArray]; exact hsz, ?_⟩⟩, hw.fit⟩, ?_, ?_, ?_⟩
      · rw [List.length_append, List.length_take, List.length_drop, hl]; omega
      · have h3 : (cur.toList.take (i * 2)).length = i * 2 := by rw [List.length_take, hcz]; omega
        have hle : (cur.toList.take (i * 2) ++ news).length = (n - 1) * 2 := by rw [List.length_append, hnl, h3]; omega
        show ((cur.toList.take (i * 2) ++ news) ++ _).take ((n - 1) * 2) = _
        rw [← hle, List.take_left, hpre, ← hnews, hj]
      · exact ⟨rfl, rfl, rfl, by simp [World.setRow], fun k _ hk => setRow_other w1 g k _ hk⟩
      · intro k hk
        rw [cell_of_row _ g _ _ _ _ hset, Array.getElem?_eq_getElem (by rw [List.size_toArray, hsz]; omega)]
        rfl
      · exact fun k => frozen_of_row _ g k _ _ hset
  obtain ⟨A, hA⟩ : ∃ A, (if cap = j then some (⟨g, 0, none⟩ : Addr) else some ⟨g, j * 2, none⟩) = some A := by
    split
    · exact ⟨_, rfl⟩
    · exact ⟨_, rfl⟩
  have hji : ¬ (i : Int) = (j : Int) := by omega
  have hij : i ≤ j := by omega
  have hjn : j ≤ n := by omega
  have hjc : j ≤ cap := by omega
  have hic : i ≤ cap := by omega
  have HK := Lib.hid key
  have HP := Lib.hid (And.intro h.fit (And.intro hj hi))
  clear key h h1 hl hi0 hz hs hby hj
  go_enter Tryd.func26, Tryd.ntmps26
  go_wp2_with fail
  refine rg_begin 8 (fun k => k = g) (by kernel_rfl) (fun w1 d1 => ?_)
  obtain ⟨w2, r2, o2, k2, c2, f2⟩ := HK.out w1 d1 A hA
  refine rg_take 0 (d := (some 20)) (v := .slice (some ⟨g, 0, none⟩) n cap) (by decide) rfl rfl (by kernel_rfl) (by kernel_rfl) (by kernel_rfl) (fun _ _ _ h => h) rfl (fun W => rfl) ?_
  conv => arg 8; simp only [Act.put, List.setIfInBounds_toArray, List.set_cons_zero, List.set_cons_succ]
  refine rg_take 1 (d := (some 21)) (v := .int .i64 i) (by decide) rfl rfl (by kernel_rfl) (by kernel_rfl) (by kernel_rfl) (fun _ _ _ h => h) rfl (fun W => rfl) ?_
  conv => arg 8; simp only [Act.put, List.setIfInBounds_toArray, List.set_cons_zero, List.set_cons_succ]
  refine rg_take 2 (d := (some 22)) (v := .slice (some ⟨g, 0, none⟩) i cap) (by decide) rfl rfl (by kernel_rfl) (by kernel_rfl) (by kernel_rfl) (fun _ _ _ h => h) rfl (fun W => by go_simp) ?_
  conv => arg 8; simp only [Act.put, List.setIfInBounds_toArray, List.set_cons_zero, List.set_cons_succ]
  refine rg_take 3 (d := (some 23)) (v := .slice (some ⟨g, 0, none⟩) n cap) (by decide) rfl rfl (by kernel_rfl) (by kernel_rfl) (by kernel_rfl) (fun _ _ _ h => h) rfl (fun W => rfl) ?_
  conv => arg 8; simp only [Act.put, List.setIfInBounds_toArray, List.set_cons_zero, List.set_cons_succ]
  refine rg_take 4 (d := (some 24)) (v := .int .i64 j) (by decide) rfl rfl (by kernel_rfl) (by kernel_rfl) (by kernel_rfl) (fun _ _ _ h => h) rfl (fun W => rfl) ?_
  conv => arg 8; simp only [Act.put, List.setIfInBounds_toArray, List.set_cons_zero, List.set_cons_succ]
  refine rg_take 5 (d := (some 25)) (v := .slice (some A) (n - j) (cap - j)) (by decide) rfl rfl (by kernel_rfl) (by kernel_rfl) (by kernel_rfl) (fun _ _ _ h => h) rfl (fun W => by rw [← hA]; go_simp) ?_
  conv => arg 8; simp only [Act.put, List.setIfInBounds_toArray, List.set_cons_zero, List.set_cons_succ]
  refine rg_onlyW 6 (w' := w2) (d := (some 26)) (v := .slice (some ⟨g, 0, none⟩) (n - 1) cap) rfl rfl (by kernel_rfl) rfl (run_append_op r2 rfl rfl) (k2) ?_
  conv => arg 8; simp only [Act.put, List.setIfInBounds_toArray, List.set_cons_zero, List.set_cons_succ]
  refine rg_take 7 (d := (some 0)) (v := .slice (some ⟨g, 0, none⟩) (n - 1) cap) (by decide) rfl rfl (by kernel_rfl) (by kernel_rfl) (by kernel_rfl) (fun _ _ _ h => h) rfl (fun W => rfl) ?_
  conv => arg 8; simp only [Act.put, List.setIfInBounds_toArray, List.set_cons_zero, List.set_cons_succ]
  refine rg_done (by kernel_rfl) ?_
  have hcl : ∀ ty, (Builtin.clear_ #[23] ty #[.slice (some ⟨g, (n - 1) * 2, none⟩) (n - (n - 1)) (cap - (n - 1))]).run Tryd.prog w2 = .ok (.tuple #[]) (w2.setCells g ((n - 1) * 2) [.bool false, .slice none 0 0]) := fun ty => run_clear1 (by omega) c2 (fun j _ => f2 _)
  have o3 := OwC.storedBehind [.bool false, .slice none 0 0] ((n - 1) * 2) w2 (by rw [o2.own.1]; omega) o2
  have k3 : Kp (fun k => k = g) w (w2.setCells g ((n - 1) * 2) [.bool false, .slice none 0 0]) := (Kp.after d1 k2).trans (Kp.setCells g _ _ w2) (fun _ _ x => x) (fun _ _ x => x)
  have hfin : DelP w F g n cap i cs (.returned (.slice (some ⟨g, 0, none⟩) (n - 1) cap)) (w2.setCells g ((n - 1) * 2) [.bool false, .slice none 0 0]) := ⟨rfl, o3, k3⟩
  have HF := Lib.hid hfin
  generalize w2.setCells g ((n - 1) * 2) [.bool false, .slice none 0 0] = w3 at *
  have hn1 : n - 1 ≤ n := by omega
  have hn2 : n - 1 < cap := by omega
  have hn3 : ¬ n - (n - 1) = 0 := by omega
  clear o2 o3 k2 k3 hfin c2 f2 r2 hA
  go_wp2
  go_ret
  exact HF.out
end Go.Proofs.YteokkpmndfekoaaDoor
