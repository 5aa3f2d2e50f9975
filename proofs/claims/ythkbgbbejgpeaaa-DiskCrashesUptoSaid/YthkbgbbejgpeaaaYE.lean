/- The document's disk: Write. -/
import Derived.Test.YthkbgbbejgpeaaaYB
namespace Go.Proofs.Ythkbgbbejgpeaaa
open Go Go.RowKit
set_option maxRecDepth 100000

/-- a call that changes the document's disk: its answer u, the disk behind it -/
def ROpP (w : World) (F : Nat → Prop) (g : Nat) (u : Value) (d : Dk) (e : Ending) (w' : World) : Prop := e = .returned u ∧ ∃ F', RefX w' F' g d ∧ Gr w w' F F' ∧ Kp F w w'
theorem ite_upd {α : Type} (f : Nat → α) (i j : Nat) : upd f i (f i) j = f j := by
  by_cases h : j = i
  · subst h; rw [upd_same]
  · rw [upd_ne _ _ h]
section
variable {w w5 w6 w' : World} {F : Nat → Prop} {g b : Nat} {tv vv : Nat → Value} {vs : Nat → List (Value × List UInt8)} {d : Dk}
/-- a version more -/
theorem RefM.push (h : RefM w F g b tv vv vs d) {j : Nat} (hj : j < d.n) (hk : (d.ca j).length ≤ 1000000000) {A : Option Addr} {n c : Nat} {xs : List UInt8} (hx : xs.length = 128) (k5 : KpN w w5) (o : OwB w5 5 (Iv w.heap.size w5.heap.size) (.slice A n c) xs) :
    ∃ v' w', (Builtin.append_ #[67, 67] 67 #[vv j, .slice (some ⟨w5.heap.size, 0, none⟩) 1 1]).run Try.prog (w5.alloc (.cells #[.slice A n c] 28)) = .ok v' w' ∧ v'.oneCell' = true ∧ v'.cells = #[v'] ∧ (w'.cell? ⟨b, j * 3 + 2, none⟩).isSome = true ∧ w'.frozen? ⟨b, j * 3 + 2, none⟩ = false ∧
      Kp (fun m => (vv j).ownBlock = some m) (w5.alloc (.cells #[.slice A n c] 28)) w' ∧ Kp F w (w'.setCell ⟨b, j * 3 + 2, none⟩ v') ∧
      ∃ F', RefX (w'.setCell ⟨b, j * 3 + 2, none⟩ v') F' g ⟨d.n, d.du, d.to, upd d.ca j (d.ca j ++ [xs]), d.off, d.fuse⟩ ∧ Gr w w' F F' := by
  have k6 := k5.alloc (.cells #[.slice A n c] 28)
  have hz5 := k5.size
  have hz6 : (w5.alloc (.cells #[.slice A n c] 28)).heap.size = w5.heap.size + 1 := by simp
  have h6 := (h.wide (G := fun m => F m ∧ m < w.heap.size) (fun m hm hf => ⟨hf, hm⟩)).keepN k6
  have o2 := own2_one (T := 28) o
  have hl := h.lenV hj
  have hlt := h.lt
  have ho := h6.vx j hj
  obtain ⟨v', w', r, o', k2⟩ := run_app2 (P := Try.prog) (t := 67) (ty := 67) (w5.alloc (.cells #[.slice A n c] 28)) Try.underlying67 listInfoY rfl ho o2 (fun m hm h2 => by rcases h2 with h2 | h2 <;> (have := h2.1; omega)) (by simp; omega) (by simp; omega)
  obtain ⟨v1, w1, r1, -, -, hat⟩ := run_app (P := Try.prog) (t := 67) (ty := 67) (w5.alloc (.cells #[.slice A n c] 28)) Try.underlying67 listInfoY rfl (by omega) ho.row o2.row.reads o2.ones (by simp; omega) (by simp; omega)
  rw [r] at r1
  injection r1 with e1 e2
  subst e1
  clear e2
  have hz' := k2.size
  have hsd := h.sepd j hj
  have hblt : b < (w5.alloc (.cells #[.slice A n c] 28)).heap.size := by omega
  have hbS : ¬ (vv j).ownBlock = some b := fun e => (hsd b e).2 rfl
  have c2 : w'.cell? ⟨b, j * 3 + 2, none⟩ = some (vv j) := by rw [k2.cell hblt hbS]; exact h6.t2 j hj
  have f2 : w'.frozen? ⟨b, j * 3 + 2, none⟩ = false := by rw [k2.frozen hblt hbS]; exact h6.bz _
  obtain ⟨A', c', hv', -⟩ := RdC.form o'.row.reads
  have kS : Kp (fun m => m = b ∨ (vv j).ownBlock = some m) w (w'.setCell ⟨b, j * 3 + 2, none⟩ v') := ((Kp.after k6 k2).mono (fun m _ hm => .inr hm)).setCell (p := ⟨b, j * 3 + 2, none⟩) (.inl (.inl rfl)) v'
  have ks : Kp (fun m => m = b) w' (w'.setCell ⟨b, j * 3 + 2, none⟩ v') := kp1_set (F := fun m => m = b) rfl (j * 3 + 2) v'
  have hvF : ∀ m, v'.ownBlock = some m → (vv j).ownBlock = some m ∨ w.heap.size ≤ m := fun m hm => by
    rcases hat with e | e
    · exact .inl (by rw [← e]; exact hm)
    · rw [e] at hm
      have hm := Option.some.inj hm
      exact .inr (by omega)
  have hvb : ∀ m, v'.ownBlock = some m → m ≠ b := fun m hm => by
    rcases hvF m hm with e | e
    · exact (hsd m e).2
    · omega
  have hsl : ∀ p (hp : p < (vs j ++ [(Value.slice A n c, xs)]).length), ∀ m, (vs j ++ [(Value.slice A n c, xs)])[p].1.ownBlock = some m → m ≠ g ∧ m ≠ b := fun p hp m hm => by
    by_cases h1 : p < (vs j).length
    · rw [List.getElem_append_left h1] at hm
      exact h.seps j hj p h1 m hm
    · have hp0 : p - (vs j).length = 0 := by simp at hp; omega
      rw [List.getElem_append_right (by omega)] at hm
      simp only [hp0, List.getElem_cons_zero] at hm
      have := (o.fit m hm).1
      exact ⟨by omega, by omega⟩
  have hG : ∀ m, (fun m => (F m ∧ m < w.heap.size) ∨ (Iv w.heap.size w5.heap.size m ∨ Iv w5.heap.size (w5.heap.size + 1) m) ∨ Iv (w5.alloc (.cells #[.slice A n c] 28)).heap.size w'.heap.size m) m → F m ∨ Iv w.heap.size w'.heap.size m := fun m hm => by
    rcases hm with hm | (hm | hm) | hm
    · exact .inl hm.1
    · exact .inr ⟨by have := hm.1; omega, by have := hm.2; omega⟩
    · exact .inr ⟨by have := hm.1; omega, by have := hm.2; omega⟩
    · exact .inr ⟨by have := hm.1; omega, by have := hm.2; omega⟩
  have hot : Own2 (w'.setCell ⟨b, j * 3 + 2, none⟩ v') 28 5 (fun m => F m ∨ Iv w.heap.size w'.heap.size m) v' (vs j ++ [(Value.slice A n c, xs)]) :=
    (o'.keepB ks (fun m hm e => hvb m hm e) (fun p hp m hm e => (hsl p hp m hm).2 e)).wide (fun m _ hm => hG m hm)
  have fin := h.sec (V := v') (T := tv j) (t := d.to j) (x := d.du j) hj kS (fun m hm => hm) (G := fun m => F m ∨ Iv w.heap.size w'.heap.size m) (fun m hm => .inl hm) (fun q h0 h1 h2 => ?_) (fun q => ?_) ?_ ?_ (World.cell?_setCell_same _ _ _ c2) (h.len j hj) ?_ hot rfl ?_ hvF (h.sept j hj) hsl
  · refine ⟨v', w', r, ?_, ?_, by rw [c2]; rfl, f2, k2, (kS.mono (fun m _ hm => ?_)), _, ⟨b, _, _, _, fin.cong rfl (fun i hi => ⟨(ite_upd _ _ _).symm, (ite_upd _ _ _).symm, ?_⟩) ⟨rfl, rfl⟩⟩, fun m hm => hm⟩
    · rw [hv']; rfl
    · rw [hv']; rfl
    · rcases hm with hm | hm
      · rw [hm]; exact h.fit.2
      · exact (h.vx j hj).row.fit m hm
    · show upd d.ca j _ i = upd d.ca j _ i
      congr 1
      rw [List.map_append, h.va j hj]
      rfl
  · rw [World.cell?_setCell_other _ _ _ _ (off_ne (fun e => h2 e.symm)), k2.cell hblt hbS, k6.cell (p := ⟨b, q, none⟩) hlt.2 (fun x => x)]
  · rw [World.frozen?_setCell, k2.frozen hblt hbS]; exact h6.bz q
  · rw [World.cell?_setCell_other _ _ _ _ (off_ne (by omega)), k2.cell hblt hbS]; exact h6.t0 j hj
  · rw [World.cell?_setCell_other _ _ _ _ (off_ne (by omega)), k2.cell hblt hbS]; exact h6.t1 j hj
  · rcases h6.tx j hj with hh | ⟨hh, ho1⟩
    · exact .inl hh
    · refine .inr ⟨hh, ((ho1.keepB k2 (fun m hm e => OwC.neT ho1.c ho.row (by decide) m hm e)).keepB ks (fun m hm e => (h.sept j hj m hm).2 e)).wide (fun m _ hm => .inl hm.1)⟩
  · intro s hs
    rw [List.map_append, h.va j hj] at hs
    rcases List.mem_append.1 hs with hs | hs
    · exact h.clen j hj s hs
    · simp at hs
      subst hs
      exact hx
set_option maxHeartbeats 3200000 in
theorem write_r {i : Int} {v : Value} {xs : List UInt8} (h : RefM w F g b tv vv vs d) (hb : RdB w v xs) (hbF : ∀ m, v.ownBlock = some m → ¬ F m) (hi : I64 i) (hk : ∀ i, i < d.n → (d.ca i).length ≤ 1000000000) :
    Calls Try.prog 69 #[.pointer (some ⟨g, 0, none⟩), .int .i64 i, v] w (ROpP w F g (.int .i64 ((writeD d i xs).1 : Int)) (writeD d i xs).2) := by
  obtain ⟨A, c, rfl, -⟩ := hb.form
  obtain ⟨N, hN⟩ : ∃ N, xs.length = N := ⟨_, rfl⟩
  have n2 := h.n2
  rw [hN] at hb hbF ⊢
  have HB := Lib.hid hb
  have HN := Lib.hid hN
  clear hb hN
  go_enter Try.func69, Try.ntmps69
  go_wp2_with fail
  refine (there_r h).mono ?_
  rintro e w2 ⟨rfl, rfl⟩
  by_cases hB : hasB d i = true
  · rw [hB]
    by_cases h128 : N = 128
    · subst h128
      go_wp2_with fail
      refine (done_r h).mono ?_
      rintro e w3 ⟨rfl, h3, k3⟩
      have hbd : 0 ≤ i ∧ i < (d.n : Int) := by simpa [hasB] using hB
      obtain ⟨j, rfl⟩ := Int.eq_ofNat_of_zero_le hbd.1
      have hjn : j < d.n := by omega
      have hw : writeD d (j : Int) xs = if (goesD d).1 = false then (5, (goesD d).2) else (0, { (goesD d).2 with ca := upd (goesD d).2.ca j ((goesD d).2.ca j ++ [xs]) }) := by
        unfold writeD
        rw [if_neg (by rintro (e | e); rw [hB] at e; cases e; exact e HN.out)]
        rfl
      by_cases hg : (goesD d).1 = true
      · rw [hg]
        rw [hg, if_neg (by simp)] at hw
        have hgn := goes_n d
        have hgc := goes_ca d
        obtain ⟨d3, hd3⟩ : ∃ d3, (goesD d).2 = d3 := ⟨_, rfl⟩
        rw [hd3] at h3 hgn hgc hw
        have HW := Lib.hid hw
        have hj3 : j < d3.n := by omega
        have hb3 := HB.out.keep k3 (fun m hm e => hbF m hm (by rw [e]; exact h.fit.1))
        have H3 := Lib.hid h3
        have HB3 := Lib.hid hb3
        have HGC := Lib.hid hgc
        have hlen3 : (d3.ca j).length ≤ 1000000000 := by rw [hgc]; exact hk j hjn
        obtain ⟨VA, VC, hvv⟩ := h3.formV hj3
        have hc0 := h3.c0
        have hc2 := h3.t2 j hj3
        rw [hvv] at hc2
        have HVV := Lib.hid hvv
        clear h3 hb3 hgc hw hg hB hvv hc0 hc2
        obtain ⟨VN, hVN⟩ : ∃ VN, (d3.ca j).length = VN := ⟨_, rfl⟩
        go_wp2_with fail
        refine rg_begin 19 (fun m => (vv j).ownBlock = some m) (by kernel_rfl) (fun w4 d4 => ?_)
        have h4 := H3.out.keepN d4
        have hc2 : w4.cell? ⟨b, j * 3 + 2, none⟩ = some (.slice VA VN VC) := by
          have := h4.t2 j hj3
          rw [HVV.out, hVN] at this
          exact this
        refine rg_take 0 (d := (some 19)) (v := .pointer (some ⟨g, 0, none⟩)) (by decide) rfl rfl (by kernel_rfl) (by kernel_rfl) (by kernel_rfl) (fun _ _ _ h => h) rfl (fun W => rfl) ?_
        conv => arg 8; simp only [Act.put, List.setIfInBounds_toArray, List.set_cons_zero, List.set_cons_succ]
        refine rg_take 1 (d := (some 20)) (v := .pointer (some ⟨g, 0, none⟩)) (by decide) rfl rfl (by kernel_rfl) (by kernel_rfl) (by kernel_rfl) (fun _ _ _ h => h) rfl (fun W => by go_simp) ?_
        conv => arg 8; simp only [Act.put, List.setIfInBounds_toArray, List.set_cons_zero, List.set_cons_succ]
        refine rg_take 2 (d := (some 21)) (v := .pointer (some ⟨g, 0, none⟩)) (by decide) rfl rfl (by kernel_rfl) (by kernel_rfl) (by kernel_rfl) (fun _ _ _ h => h) rfl (fun W => by go_simp) ?_
        conv => arg 8; simp only [Act.put, List.setIfInBounds_toArray, List.set_cons_zero, List.set_cons_succ]
        refine rg_read 3 (d := (some 22)) (v := .slice (some ⟨b, 0, none⟩) d3.n d3.n) (by decide) (by kernel_rfl) (by kernel_rfl) rfl rfl (by kernel_rfl) (by kernel_rfl) (by kernel_rfl) (fun _ _ _ h => h) rfl (fun W hW => by have hc := (hW.cell (p := ⟨g, 0, none⟩) (h4.lt.1) (fun hh => (h4.sepd j hj3 _ hh).1 rfl)).trans (h4.c0); go_simp) ?_
        conv => arg 8; simp only [Act.put, List.setIfInBounds_toArray, List.set_cons_zero, List.set_cons_succ]
        refine rg_take 4 (d := (some 23)) (v := .int .i64 j) (by decide) rfl rfl (by kernel_rfl) (by kernel_rfl) (by kernel_rfl) (fun _ _ _ h => h) rfl (fun W => rfl) ?_
        conv => arg 8; simp only [Act.put, List.setIfInBounds_toArray, List.set_cons_zero, List.set_cons_succ]
        refine rg_take 5 (d := (some 24)) (v := .pointer (some ⟨g, 0, none⟩)) (by decide) rfl rfl (by kernel_rfl) (by kernel_rfl) (by kernel_rfl) (fun _ _ _ h => h) rfl (fun W => rfl) ?_
        conv => arg 8; simp only [Act.put, List.setIfInBounds_toArray, List.set_cons_zero, List.set_cons_succ]
        refine rg_take 6 (d := (some 25)) (v := .pointer (some ⟨g, 0, none⟩)) (by decide) rfl rfl (by kernel_rfl) (by kernel_rfl) (by kernel_rfl) (fun _ _ _ h => h) rfl (fun W => by go_simp) ?_
        conv => arg 8; simp only [Act.put, List.setIfInBounds_toArray, List.set_cons_zero, List.set_cons_succ]
        refine rg_take 7 (d := (some 26)) (v := .pointer (some ⟨g, 0, none⟩)) (by decide) rfl rfl (by kernel_rfl) (by kernel_rfl) (by kernel_rfl) (fun _ _ _ h => h) rfl (fun W => by go_simp) ?_
        conv => arg 8; simp only [Act.put, List.setIfInBounds_toArray, List.set_cons_zero, List.set_cons_succ]
        refine rg_read 8 (d := (some 27)) (v := .slice (some ⟨b, 0, none⟩) d3.n d3.n) (by decide) (by kernel_rfl) (by kernel_rfl) rfl rfl (by kernel_rfl) (by kernel_rfl) (by kernel_rfl) (fun _ _ _ h => h) rfl (fun W hW => by have hc := (hW.cell (p := ⟨g, 0, none⟩) (h4.lt.1) (fun hh => (h4.sepd j hj3 _ hh).1 rfl)).trans (h4.c0); go_simp) ?_
        conv => arg 8; simp only [Act.put, List.setIfInBounds_toArray, List.set_cons_zero, List.set_cons_succ]
        refine rg_take 9 (d := (some 28)) (v := .int .i64 j) (by decide) rfl rfl (by kernel_rfl) (by kernel_rfl) (by kernel_rfl) (fun _ _ _ h => h) rfl (fun W => rfl) ?_
        conv => arg 8; simp only [Act.put, List.setIfInBounds_toArray, List.set_cons_zero, List.set_cons_succ]
        refine rg_take 10 (d := (some 29)) (v := .pointer (some ⟨b, j * 3, none⟩)) (by decide) rfl rfl (by kernel_rfl) (by kernel_rfl) (by kernel_rfl) (fun _ _ _ h => h) rfl (fun W => by go_simp) ?_
        conv => arg 8; simp only [Act.put, List.setIfInBounds_toArray, List.set_cons_zero, List.set_cons_succ]
        refine rg_take 11 (d := (some 30)) (v := .pointer (some ⟨b, j * 3 + 2, none⟩)) (by decide) rfl rfl (by kernel_rfl) (by kernel_rfl) (by kernel_rfl) (fun _ _ _ h => h) rfl (fun W => by go_simp) ?_
        conv => arg 8; simp only [Act.put, List.setIfInBounds_toArray, List.set_cons_zero, List.set_cons_succ]
        refine rg_read 12 (d := (some 31)) (v := .slice VA VN VC) (by decide) (by kernel_rfl) (by kernel_rfl) rfl rfl (by kernel_rfl) (by kernel_rfl) (by kernel_rfl) (fun _ _ _ h => h) rfl (fun W hW => by have hc := (hW.cell (p := ⟨b, j * 3 + 2, none⟩) (h4.lt.2) (fun hh => (h4.sepd j hj3 _ hh).2 rfl)).trans (hc2); go_simp) ?_
        conv => arg 8; simp only [Act.put, List.setIfInBounds_toArray, List.set_cons_zero, List.set_cons_succ]
        refine rg_take 13 (d := (some 32)) (v := .slice A 128 c) (by decide) rfl rfl (by kernel_rfl) (by kernel_rfl) (by kernel_rfl) (fun _ _ _ h => h) rfl (fun W => rfl) ?_
        conv => arg 8; simp only [Act.put, List.setIfInBounds_toArray, List.set_cons_zero, List.set_cons_succ]
        refine rg_call 14 (d := (some 33)) (by kernel_rfl) (copied_r (HB3.out.keepN d4) (by rw [HN.out]; omega)) rfl rfl (by kernel_rfl) rfl rfl ?_
        rintro e w5 ⟨vf, rfl, of, kf⟩
        refine ⟨_, rfl, kf.mono (fun _ _ x => x.elim), ?_⟩
        conv => arg 8; simp only [Act.put, List.setIfInBounds_toArray, List.set_cons_zero, List.set_cons_succ]
        obtain ⟨Af, cf, rfl, -⟩ := of.readsB.form
        obtain ⟨v7, w7, r7, hv1, hv2, hs7, hf7, k7, kF7, F7, hx7, hg7⟩ := h4.push hj3 hlen3 HN.out kf of
        rw [HVV.out, hVN] at r7
        refine rg_onlyW 15 (w' := w5.alloc (.cells #[.slice Af xs.length cf] 28)) (d := (some 34)) (v := .slice (some ⟨w5.heap.size, 0, none⟩) 1 1) rfl rfl (by kernel_rfl) rfl (litY1_op w5 rfl) ((Kp.refl _ w5).alloc _) ?_
        conv => arg 8; simp only [Act.put, List.setIfInBounds_toArray, List.set_cons_zero, List.set_cons_succ]
        refine rg_onlyW 16 (w' := w7) (d := (some 35)) (v := v7) rfl rfl (by kernel_rfl) rfl (run_append_op r7 rfl rfl) (k7) ?_
        conv => arg 8; simp only [Act.put, List.setIfInBounds_toArray, List.set_cons_zero, List.set_cons_succ]
        refine rg_take 17 (d := (some 36)) (v := .pointer (some ⟨b, j * 3, none⟩)) (by decide) rfl rfl (by kernel_rfl) (by kernel_rfl) (by kernel_rfl) (fun _ _ _ h => h) rfl (fun W => by go_simp) ?_
        conv => arg 8; simp only [Act.put, List.setIfInBounds_toArray, List.set_cons_zero, List.set_cons_succ]
        refine rg_take 18 (d := (some 37)) (v := .pointer (some ⟨b, j * 3 + 2, none⟩)) (by decide) rfl rfl (by kernel_rfl) (by kernel_rfl) (by kernel_rfl) (fun _ _ _ h => h) rfl (fun W => by go_simp) ?_
        conv => arg 8; simp only [Act.put, List.setIfInBounds_toArray, List.set_cons_zero, List.set_cons_succ]
        refine rg_lastS (G := fun _ => True) (w7.setCell ⟨b, j * 3 + 2, none⟩ v7) (d := none) rfl rfl (by kernel_rfl) rfl (run_store_op (run_storeAt_one _ b (j * 3 + 2) 67 v7 hs7 hf7 (by kernel_rfl) hv2 hv1) rfl rfl) (by kernel_rfl) ?_
        conv => arg 8; simp only [Act.put, List.setIfInBounds_toArray, List.set_cons_zero, List.set_cons_succ]
        refine rg_done (by kernel_rfl) ?_
        have hfin : ROpP w F g (.int .i64 (((0 : Nat) : Int))) ⟨d3.n, d3.du, d3.to, upd d3.ca j (d3.ca j ++ [xs]), d3.off, d3.fuse⟩ (.returned (.int .i64 0)) (w7.setCell ⟨b, j * 3 + 2, none⟩ v7) := by
          have z4 := d4.size
          have z3 := k3.size
          refine ⟨rfl, F7, hx7, fun m hm => ?_, ((k3.mono (fun m _ e => by rw [e]; exact h.fit.1)).thenN d4).trans kF7 (fun _ _ x => x) (fun _ _ x => x)⟩
          rcases hg7 m hm with hm | hm
          · exact .inl hm
          · exact .inr ⟨by have := hm.1; omega, by have := hm.2; simpa using this⟩
        have HF := Lib.hid hfin
        clear hfin hx7 hg7 kF7 of h4 hc2
        generalize w7.setCell ⟨b, j * 3 + 2, none⟩ v7 = w8 at HF ⊢
        go_wp2
        go_ret
        rw [HW.out]
        exact HF.out
      · have hg' : (goesD d).1 = false := by simpa using hg
        rw [hg']
        rw [if_pos hg'] at hw
        have HW := Lib.hid hw
        have hfin : ROpP w F g (.int .i64 (((5 : Nat) : Int))) (goesD d).2 (.returned (.int .i64 5)) w3 := ⟨rfl, F, ⟨b, tv, vv, vs, h3⟩, Gr.refl _ _ _, k3.mono (fun m _ e => by rw [e]; exact h.fit.1)⟩
        have HF := Lib.hid hfin
        clear hfin h3 hw hg hg' hB
        go_wp2
        go_ret
        rw [HW.out]
        exact HF.out
    · have hw : writeD d i xs = (1, d) := by unfold writeD; rw [if_pos (.inr (by rw [HN.out]; exact h128))]
      have HW := Lib.hid hw
      have hfin : ROpP w F g (.int .i64 (((1 : Nat) : Int))) d (.returned (.int .i64 1)) w := ⟨rfl, F, ⟨b, tv, vv, vs, h⟩, Gr.refl _ _ _, Kp.refl _ _⟩
      have HF := Lib.hid hfin
      have h128' : ((N : Int) == 128) = false := by simp; omega
      clear hfin hw hB h
      go_wp2
      go_ret
      rw [HW.out]
      exact HF.out
  · have hB' : hasB d i = false := by simpa using hB
    rw [hB']
    have hw : writeD d i xs = (1, d) := by unfold writeD; rw [if_pos (.inl hB')]
    have HW := Lib.hid hw
    have hfin : ROpP w F g (.int .i64 (((1 : Nat) : Int))) d (.returned (.int .i64 1)) w := ⟨rfl, F, ⟨b, tv, vv, vs, h⟩, Gr.refl _ _ _, Kp.refl _ _⟩
    have HF := Lib.hid hfin
    clear hfin hw hB hB' h
    go_wp2
    go_ret
    rw [HW.out]
    exact HF.out
end

theorem run_buildS {A : Option Addr} {n c : Nat} {a : Act} {dst : Option Tmp} {ty : TypeId} {x : Operand} {pos : String} {af : Array Edge} {gd : Option (Nat × Bool)} {w : World} (hx : a.eval x = .slice A n c) :
    (execOp a.eval { dst := dst, op := .build 96 #[(0, x)], type := ty, pos := pos, after := af, guard := gd }).run Try.prog w = .ok (.value (.agg #[.slice A n c, .bool false, .slice none 0 0])) w := by
  unfold execOp
  simp only [List.map_toArray, List.map_cons, List.map_nil, hx]
  kernel_rfl
theorem secSz (T : Value) (t : Bool) : (Try.prog.info? 96).map (·.size) = some [T, .bool t, .slice none 0 0].length := by kernel_rfl
theorem run_put3 (w : World) (b o : Nat) {A : Option Addr} {n c : Nat} (t : Bool) (h : w.there b o 3) : (Instr.storeAt 96 (.pointer (some ⟨b, o, none⟩)) (.agg #[.slice A n c, .bool t, .slice none 0 0])).run Try.prog w = .ok () (w.setCells b o [.slice A n c, .bool t, .slice none 0 0]) :=
  run_storeAt_mid w b o 96 #[.slice A n c, .bool t, .slice none 0 0] h (by kernel_rfl) (by kernel_rfl)
section
variable {w : World} {F : Nat → Prop} {g b : Nat} {tv vv : Nat → Value} {vs : Nat → List (Value × List UInt8)} {d : Dk}
/-- the versions are dropped -/
theorem RefM.drop2 (h : RefM w F g b tv vv vs d) {i : Nat} (hi : i < d.n) : RefM (w.setCell ⟨b, i * 3 + 2, none⟩ (.slice none 0 0)) F g b (upd tv i (tv i)) (upd vv i (.slice none 0 0)) (upd vs i []) ⟨d.n, upd d.du i (d.du i), upd d.to i (d.to i), upd d.ca i [], d.off, d.fuse⟩ := by
  have kk : Kp (fun m => m = b) w (w.setCell ⟨b, i * 3 + 2, none⟩ (.slice none 0 0)) := kp1_set (F := fun m => m = b) rfl (i * 3 + 2) _
  refine h.sec hi kk (fun m hm => .inl hm) (fun _ x => x) (fun j h0 h1 h2 => ?_) (fun j => ?_) ?_ ?_ (World.cell?_setCell_same _ _ _ (h.t2 i hi)) (h.len i hi) ?_ (Own2.nil _ _ _ _) rfl (fun s hs => by cases hs) (fun m hm => by cases hm) (h.sept i hi) (fun p hp => by cases hp)
  · rw [World.cell?_setCell_other _ _ _ _ (off_ne (fun e => h2 e.symm))]
  · rw [World.frozen?_setCell]; exact h.bz j
  · rw [World.cell?_setCell_other _ _ _ _ (off_ne (by omega))]; exact h.t0 i hi
  · rw [World.cell?_setCell_other _ _ _ _ (off_ne (by omega))]; exact h.t1 i hi
  · rcases h.tx i hi with hh | ⟨hh, ho⟩
    · exact .inl hh
    · exact .inr ⟨hh, ho.keepB kk (fun m hm e => (h.sept i hi m hm).2 e)⟩
end
/-- behind q rounds of a Flush -/
def flR (d : Dk) (q : Nat) : Dk := ⟨d.n, fun i => if i < q ∧ d.ca i ≠ [] then (d.ca i).getLast?.getD [] else d.du i, fun i => if i < q ∧ d.ca i ≠ [] then false else d.to i, fun i => if i < q then [] else d.ca i, d.off, d.fuse⟩
def FlRel (w : World) (F : Nat → Prop) (g b : Nat) (d : Dk) (i : Value) (wr : World) : Prop := ∃ (q : Nat) (tv vv : Nat → Value) (vs : Nat → List (Value × List UInt8)), q ≤ d.n ∧ i = .int .i64 q ∧ RefM wr F g b tv vv vs (flR d q) ∧ Kp (fun m => m = b) w wr
section
variable {w : World} {F : Nat → Prop} {g b : Nat} {tv vv : Nat → Value} {vs : Nat → List (Value × List UInt8)} {d : Dk}
set_option maxHeartbeats 6400000 in
theorem flush_r (h : RefM w F g b tv vv vs d) : Calls Try.prog 70 #[.pointer (some ⟨g, 0, none⟩)] w (ROpP w F g (.int .i64 ((flushD d).1 : Int)) (flushD d).2) := by
  have n1 := h.n1
  have n2 := h.n2
  go_enter Try.func70, Try.ntmps70
  go_wp2_with fail
  refine (none_r h).mono ?_
  rintro e w2 ⟨rfl, rfl⟩
  go_wp2_with fail
  refine (done_r h).mono ?_
  rintro e w3 ⟨rfl, h3, k3⟩
  have k3F : Kp F w w3 := k3.mono (fun m _ e => by rw [e]; exact h.fit.1)
  by_cases hg : (goesD d).1 = true
  · rw [hg]
    have hw : flushD d = (0, bareD (flushI (goesD d).2 (fun _ => false))) := by unfold flushD; rw [if_neg (by simp [hg])]
    have hgn := goes_n d
    obtain ⟨d3, hd3⟩ : ∃ d3, (goesD d).2 = d3 := ⟨_, rfl⟩
    rw [hd3] at h3 hgn hw
    rw [← hgn] at n1 n2
    have HW := Lib.hid hw
    clear hgn
    have H3 := Lib.hid (h3.cong (d' := flR d3 0) rfl (fun i _ => by simp [flR]) ⟨rfl, rfl⟩)
    clear hw hg h3 hd3
    go_wp2_with fail
    go_loopw [3] (fun i wr => FlRel w3 F g b d3 i wr) (fun i _ => d3.n - (intOf i).toNat)
    case atStart => exact ⟨0, _, _, _, Nat.zero_le _, rfl, H3.out, Kp.refl _ _⟩
    case round =>
      obtain ⟨q, tv1, vv1, vs1, hq, rfl, hr, hk⟩ := hrel
      have c0 : wr.cell? ⟨g, 0, none⟩ = some (.slice (some ⟨b, 0, none⟩) d3.n d3.n) := hr.c0
      by_cases hlt : q < d3.n
      · have hqf : q < (flR d3 q).n := hlt
        have hca : (flR d3 q).ca q = d3.ca q := if_neg (Nat.lt_irrefl q)
        obtain ⟨VA, VC, hvv⟩ := hr.formV hqf
        have t2 := hr.t2 q hqf
        rw [hvv, hca] at t2
        obtain ⟨LL, hLL⟩ : ∃ LL, (d3.ca q).length = LL := ⟨_, rfl⟩
        rw [hLL] at t2
        by_cases hc : d3.ca q = []
        · have hL0 : LL = 0 := by rw [← hLL, hc]; rfl
          subst hL0
          have hfin : FlRel w3 F g b d3 (.int .i64 ((q : Int) + 1)) wr := by
            refine ⟨q + 1, _, _, _, by omega, by go_num, hr.cong rfl (fun i hi => ?_) ⟨rfl, rfl⟩, hk⟩
            by_cases hiq : i = q
            · subst hiq
              simp [flR, hc]
            · have : (i < q + 1) = (i < q) := by apply propext; omega
              simp [flR, this]
          have HF := Lib.hid hfin
          clear hfin hr hvv hca hLL hc
          go_wp2_with fail
          exact ⟨HF.out, meas_up hlt⟩
        · obtain ⟨M, rfl⟩ : ∃ M, LL = M + 1 := ⟨LL - 1, by have := List.length_pos_iff.2 hc; omega⟩
          obtain ⟨gv, cv, u, hv, hgg, hgb, hgl, hcu, hou, hsu⟩ := hr.verAt hqf M (by rw [hca, hLL]; omega)
          rw [hca, hLL] at hv
          rw [hvv] at hv
          have hMb := (hr.vx q hqf).row.bound
          rw [hr.lenV hqf, hca, hLL] at hMb
          have hv : Value.slice VA (d3.ca q).length VC = .slice (some ⟨gv, 0, none⟩) (M + 1) cv := by rw [← hca]; exact hv
          injection hv with e1 e2 e3
          subst e1 e3
          obtain ⟨uA, uc, hu, -⟩ := hou.readsB.form
          have h128 := hr.clen q hqf _ (List.getElem_mem (l := (flR d3 q).ca q) (n := M) (by rw [hca, hLL]; omega))
          obtain ⟨s, hs⟩ : ∃ s, ((flR d3 q).ca q)[M]'(by rw [hca, hLL]; omega) = s := ⟨_, rfl⟩
          have hlast : ((d3.ca q).getLast?).getD [] = s := by
            have e0 : ((flR d3 q).ca q)[M]? = some s := by rw [← hs]; exact List.getElem?_eq_getElem _
            rw [hca] at e0
            rw [List.getLast?_eq_getElem?, hLL, Nat.add_sub_cancel, e0]
            rfl
          rw [hs] at hou hu h128
          rw [h128] at hu
          subst hu
          have hend : ∀ w4, KpN wr w4 → RefM w4 F g b tv1 vv1 vs1 (flR d3 q) ∧ w4.cell? ⟨b, q * 3 + 2, none⟩ = some (.slice (some ⟨gv, 0, none⟩) (M + 1) VC) ∧ w4.cell? ⟨gv, M, none⟩ = some (.slice uA 128 uc) ∧ w4.there b (q * 3) 3 ∧ FlRel w3 F g b d3 (.int .i64 ((q : Int) + 1)) (w4.setCells b (q * 3) [.slice uA 128 uc, .bool false, .slice none 0 0]) := by
            intro w4 d4
            have h4 := hr.keepN d4
            have hput := h4.put3 hqf (.slice uA 128 uc) false (x := s) h128 (.inr ⟨rfl, hou.keepN d4⟩) hsu
            have kput := Kp.setCells b [.slice uA 128 uc, .bool false, .slice none 0 0] (q * 3) w4
            refine ⟨h4, ?_, ?_, h4.there hqf, q + 1, _, _, _, by omega, by go_num, hput.cong rfl (fun i hi => ?_) ⟨rfl, rfl⟩, (hk.thenN d4).trans kput (fun _ _ x => x) (fun _ _ x => x)⟩
            · rw [d4.cell (p := ⟨b, q * 3 + 2, none⟩) hr.lt.2 (fun x => x)]; exact t2
            · rw [d4.cell (p := ⟨gv, M, none⟩) hgl (fun x => x)]; exact hcu
            · by_cases hiq : i = q
              · subst hiq
                simp [flR, hc, upd_same, hlast]
              · have : (i < q + 1) = (i < q) := by apply propext; omega
                simp [flR, this, upd_ne _ _ hiq]
          have HE := Lib.hid hend
          have hsub : IntKind.i64.wrap (M : Int) = (M : Int) := IntWalk.i64_in _ (by omega)
          have hMM : ((M : Int) + 1 ≤ (M : Int)) = False := propext ⟨fun h => by omega, fun h => h.elim⟩
          clear hend hr hvv hca hLL hc hs h128 hlast hou hsu e2 hv
          go_wp2_with fail
          refine rg_begin 19 (fun _ => False) (by kernel_rfl) (fun w4 d4 => ?_)
          obtain ⟨h4, e24, eu4, eth, efin⟩ := HE.out w4 d4
          have hgl4 : gv < w4.heap.size := by have := d4.size; omega
          have c04 : w4.cell? ⟨g, 0, none⟩ = some (.slice (some ⟨b, 0, none⟩) d3.n d3.n) := h4.c0
          refine rg_take 0 (d := (some 30)) (v := .pointer (some ⟨g, 0, none⟩)) (by decide) rfl rfl (by kernel_rfl) (by kernel_rfl) (by kernel_rfl) (fun _ _ _ h => h) rfl (fun W => rfl) ?_
          conv => arg 8; simp only [Act.put, List.setIfInBounds_toArray, List.set_cons_zero, List.set_cons_succ]
          refine rg_take 1 (d := (some 31)) (v := .pointer (some ⟨g, 0, none⟩)) (by decide) rfl rfl (by kernel_rfl) (by kernel_rfl) (by kernel_rfl) (fun _ _ _ h => h) rfl (fun W => by go_simp) ?_
          conv => arg 8; simp only [Act.put, List.setIfInBounds_toArray, List.set_cons_zero, List.set_cons_succ]
          refine rg_take 2 (d := (some 32)) (v := .pointer (some ⟨g, 0, none⟩)) (by decide) rfl rfl (by kernel_rfl) (by kernel_rfl) (by kernel_rfl) (fun _ _ _ h => h) rfl (fun W => by go_simp) ?_
          conv => arg 8; simp only [Act.put, List.setIfInBounds_toArray, List.set_cons_zero, List.set_cons_succ]
          refine rg_read 3 (d := (some 33)) (v := .slice (some ⟨b, 0, none⟩) d3.n d3.n) (by decide) (by kernel_rfl) (by kernel_rfl) rfl rfl (by kernel_rfl) (by kernel_rfl) (by kernel_rfl) (fun _ _ _ h => h) rfl (fun W hW => by have hc := (hW.cell (p := ⟨g, 0, none⟩) (h4.lt.1) (fun x => x)).trans (c04); go_simp) ?_
          conv => arg 8; simp only [Act.put, List.setIfInBounds_toArray, List.set_cons_zero, List.set_cons_succ]
          refine rg_take 4 (d := (some 34)) (v := .int .i64 q) (by decide) rfl rfl (by kernel_rfl) (by kernel_rfl) (by kernel_rfl) (fun _ _ _ h => h) rfl (fun W => rfl) ?_
          conv => arg 8; simp only [Act.put, List.setIfInBounds_toArray, List.set_cons_zero, List.set_cons_succ]
          refine rg_take 5 (d := (some 35)) (v := .pointer (some ⟨g, 0, none⟩)) (by decide) rfl rfl (by kernel_rfl) (by kernel_rfl) (by kernel_rfl) (fun _ _ _ h => h) rfl (fun W => rfl) ?_
          conv => arg 8; simp only [Act.put, List.setIfInBounds_toArray, List.set_cons_zero, List.set_cons_succ]
          refine rg_take 6 (d := (some 36)) (v := .pointer (some ⟨g, 0, none⟩)) (by decide) rfl rfl (by kernel_rfl) (by kernel_rfl) (by kernel_rfl) (fun _ _ _ h => h) rfl (fun W => by go_simp) ?_
          conv => arg 8; simp only [Act.put, List.setIfInBounds_toArray, List.set_cons_zero, List.set_cons_succ]
          refine rg_take 7 (d := (some 37)) (v := .pointer (some ⟨g, 0, none⟩)) (by decide) rfl rfl (by kernel_rfl) (by kernel_rfl) (by kernel_rfl) (fun _ _ _ h => h) rfl (fun W => by go_simp) ?_
          conv => arg 8; simp only [Act.put, List.setIfInBounds_toArray, List.set_cons_zero, List.set_cons_succ]
          refine rg_read 8 (d := (some 38)) (v := .slice (some ⟨b, 0, none⟩) d3.n d3.n) (by decide) (by kernel_rfl) (by kernel_rfl) rfl rfl (by kernel_rfl) (by kernel_rfl) (by kernel_rfl) (fun _ _ _ h => h) rfl (fun W hW => by have hc := (hW.cell (p := ⟨g, 0, none⟩) (h4.lt.1) (fun x => x)).trans (c04); go_simp) ?_
          conv => arg 8; simp only [Act.put, List.setIfInBounds_toArray, List.set_cons_zero, List.set_cons_succ]
          refine rg_take 9 (d := (some 39)) (v := .int .i64 q) (by decide) rfl rfl (by kernel_rfl) (by kernel_rfl) (by kernel_rfl) (fun _ _ _ h => h) rfl (fun W => rfl) ?_
          conv => arg 8; simp only [Act.put, List.setIfInBounds_toArray, List.set_cons_zero, List.set_cons_succ]
          refine rg_take 10 (d := (some 40)) (v := .pointer (some ⟨b, q * 3, none⟩)) (by decide) rfl rfl (by kernel_rfl) (by kernel_rfl) (by kernel_rfl) (fun _ _ _ h => h) rfl (fun W => by go_simp) ?_
          conv => arg 8; simp only [Act.put, List.setIfInBounds_toArray, List.set_cons_zero, List.set_cons_succ]
          refine rg_take 11 (d := (some 41)) (v := .pointer (some ⟨b, q * 3 + 2, none⟩)) (by decide) rfl rfl (by kernel_rfl) (by kernel_rfl) (by kernel_rfl) (fun _ _ _ h => h) rfl (fun W => by go_simp) ?_
          conv => arg 8; simp only [Act.put, List.setIfInBounds_toArray, List.set_cons_zero, List.set_cons_succ]
          refine rg_read 12 (d := (some 42)) (v := .slice (some ⟨gv, 0, none⟩) (M + 1) VC) (by decide) (by kernel_rfl) (by kernel_rfl) rfl rfl (by kernel_rfl) (by kernel_rfl) (by kernel_rfl) (fun _ _ _ h => h) rfl (fun W hW => by have hc := (hW.cell (p := ⟨b, q * 3 + 2, none⟩) (h4.lt.2) (fun x => x)).trans (e24); go_simp) ?_
          conv => arg 8; simp only [Act.put, List.setIfInBounds_toArray, List.set_cons_zero, List.set_cons_succ]
          refine rg_take 13 (d := (some 43)) (v := .int .i64 (M + 1 : Nat)) (by decide) rfl rfl (by kernel_rfl) (by kernel_rfl) (by kernel_rfl) (fun _ _ _ h => h) rfl (fun W => rfl) ?_
          conv => arg 8; simp only [Act.put, List.setIfInBounds_toArray, List.set_cons_zero, List.set_cons_succ]
          refine rg_take 14 (d := (some 44)) (v := .int .i64 M) (by decide) rfl rfl (by kernel_rfl) (by kernel_rfl) (by kernel_rfl) (fun _ _ _ h => h) rfl (fun W => by go_simp) ?_
          conv => arg 8; simp only [Act.put, List.setIfInBounds_toArray, List.set_cons_zero, List.set_cons_succ]
          refine rg_take 15 (d := (some 45)) (v := .pointer (some ⟨gv, M, none⟩)) (by decide) rfl rfl (by kernel_rfl) (by kernel_rfl) (by kernel_rfl) (fun _ _ _ h => h) rfl (fun W => by go_simp) ?_
          conv => arg 8; simp only [Act.put, List.setIfInBounds_toArray, List.set_cons_zero, List.set_cons_succ]
          refine rg_read 16 (d := (some 46)) (v := .slice uA 128 uc) (by decide) (by kernel_rfl) (by kernel_rfl) rfl rfl (by kernel_rfl) (by kernel_rfl) (by kernel_rfl) (fun _ _ _ h => h) rfl (fun W hW => by have hc := (hW.cell (p := ⟨gv, M, none⟩) (hgl4) (fun x => x)).trans (eu4); go_simp) ?_
          conv => arg 8; simp only [Act.put, List.setIfInBounds_toArray, List.set_cons_zero, List.set_cons_succ]
          refine rg_take 17 (d := (some 47)) (v := .agg #[.slice uA 128 uc, .bool false, .slice none 0 0]) (by decide) rfl rfl (by kernel_rfl) (by kernel_rfl) (by kernel_rfl) (fun _ _ _ h => h) rfl (fun W => run_buildS rfl) ?_
          conv => arg 8; simp only [Act.put, List.setIfInBounds_toArray, List.set_cons_zero, List.set_cons_succ]
          refine rg_take 18 (d := (some 48)) (v := .pointer (some ⟨b, q * 3, none⟩)) (by decide) rfl rfl (by kernel_rfl) (by kernel_rfl) (by kernel_rfl) (fun _ _ _ h => h) rfl (fun W => by go_simp) ?_
          conv => arg 8; simp only [Act.put, List.setIfInBounds_toArray, List.set_cons_zero, List.set_cons_succ]
          refine rg_lastS (G := fun _ => True) (w4.setCells b (q * 3) [.slice uA 128 uc, .bool false, .slice none 0 0]) (d := none) rfl rfl (by kernel_rfl) rfl (run_store_op (run_put3 w4 b (q * 3) false eth) rfl rfl) (by kernel_rfl) ?_
          conv => arg 8; simp only [Act.put, List.setIfInBounds_toArray, List.set_cons_zero, List.set_cons_succ]
          refine rg_done (by kernel_rfl) ?_
          have HF := Lib.hid efin
          clear efin eth eu4 e24 h4
          generalize w4.setCells b (q * 3) [.slice uA 128 uc, .bool false, .slice none 0 0] = w5 at HF ⊢
          go_wp2_with fail
          exact ⟨HF.out, meas_up hlt⟩
      · have hqn : q = d3.n := by omega
        have hfin : ROpP w F g (.int .i64 (((0 : Nat) : Int))) (bareD (flushI d3 (fun _ => false))) (.returned (.int .i64 0)) wr := by
          refine ⟨rfl, F, ⟨b, tv1, vv1, vs1, hr.cong rfl (fun i hi => ?_) ⟨rfl, rfl⟩⟩, Gr.refl _ _ _, k3F.trans (hk.mono (fun m _ e => by rw [e]; exact h.fit.2)) (fun _ _ x => x) (fun _ _ x => x)⟩
          have hi : i < d3.n := hi
          simp [flR, bareD, flushI, hi, hqn]
        have HF := Lib.hid hfin
        clear hfin hr
        go_wp2_with fail
        go_ret
        rw [HW.out]
        exact HF.out
  · have hg' : (goesD d).1 = false := by simpa using hg
    have hw : flushD d = (5, (goesD d).2) := by unfold flushD; rw [if_pos hg']
    have HW := Lib.hid hw
    rw [hg']
    have hfin : ROpP w F g (.int .i64 (((5 : Nat) : Int))) (goesD d).2 (.returned (.int .i64 5)) w3 := ⟨rfl, F, ⟨b, tv, vv, vs, h3⟩, Gr.refl _ _ _, k3F⟩
    have HF := Lib.hid hfin
    clear hfin h3 hw hg hg'
    go_wp2
    go_ret
    rw [HW.out]
    exact HF.out
end
end Go.Proofs.Ythkbgbbejgpeaaa
