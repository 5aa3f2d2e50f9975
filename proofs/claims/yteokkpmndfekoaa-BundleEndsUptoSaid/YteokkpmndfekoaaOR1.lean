/- octet.Reader. -/
import Derived.Test.YteokkpmndfekoaaON
import Derived.Test.YteokkpmndfekoaaR
namespace Go.Proofs.Yteokkpmndfekoaa
open Go Go.RowKit
set_option maxRecDepth 100000

/-- the four cells of a Reader in block g -/
structure RdrC (w : World) (F : Nat → Prop) (g : Nat) (v : Value) (xs : List UInt8) (a : Nat) (f : Int) : Prop where
  fit : F g
  lt : g < w.heap.size
  c0 : w.cell? ⟨g, 0, none⟩ = some v
  c1 : w.cell? ⟨g, 1, none⟩ = some (.int .i64 (a : Int))
  c2 : w.cell? ⟨g, 2, none⟩ = some (.bool true)
  c3 : w.cell? ⟨g, 3, none⟩ = some (.int .i64 f)
  fz : ∀ j, w.frozen? ⟨g, j, none⟩ = false
  le : a ≤ xs.length
  small : xs.length ≤ 100000000000
  own : OwB w 5 (fun k => F k ∧ k ≠ g) v xs
theorem RdrC.keep {w w' : World} {F S : Nat → Prop} {g a : Nat} {f : Int} {v : Value} {xs : List UInt8} (h : RdrC w F g v xs a f) (k : Kp S w w') (hs : ∀ i, F i → ¬ S i) : RdrC w' F g v xs a f :=
  ⟨h.fit, Nat.lt_of_lt_of_le h.lt k.size, by rw [k.cell h.lt (hs _ h.fit)]; exact h.c0, by rw [k.cell h.lt (hs _ h.fit)]; exact h.c1, by rw [k.cell h.lt (hs _ h.fit)]; exact h.c2, by rw [k.cell h.lt (hs _ h.fit)]; exact h.c3, fun j => by rw [k.frozen h.lt (hs _ h.fit)]; exact h.fz j, h.le, h.small, h.own.keep k (fun i hi => hs i hi.1)⟩
theorem RdrC.keepN {w w' : World} {F : Nat → Prop} {g a : Nat} {f : Int} {v : Value} {xs : List UInt8} (h : RdrC w F g v xs a f) (k : KpN w w') : RdrC w' F g v xs a f := h.keep k (fun _ _ x => x)
theorem off_ne {g i j : Nat} (h : i ≠ j) : (⟨g, i, none⟩ : Addr) ≠ ⟨g, j, none⟩ := fun e => h (congrArg Addr.off e)
/-- a store of the place -/
theorem RdrC.setAt {w : World} {F : Nat → Prop} {g a : Nat} {f : Int} {v : Value} {xs : List UInt8} (h : RdrC w F g v xs a f) (b : Nat) (hb : b ≤ xs.length) : RdrC (w.setCell ⟨g, 1, none⟩ (.int .i64 (b : Int))) F g v xs b f :=
  ⟨h.fit, by simpa using h.lt, by rw [World.cell?_setCell_other _ _ _ _ (off_ne (by omega))]; exact h.c0, World.cell?_setCell_same _ _ _ h.c1, by rw [World.cell?_setCell_other _ _ _ _ (off_ne (by omega))]; exact h.c2, by rw [World.cell?_setCell_other _ _ _ _ (off_ne (by omega))]; exact h.c3, fun j => by simpa using h.fz j, hb, h.small, h.own.keep ((Kp.refl (fun i => i = g) w).setCell (p := ⟨g, 1, none⟩) (.inl rfl) _) (fun i hi => hi.2)⟩
theorem RdrC.setFault {w : World} {F : Nat → Prop} {g a : Nat} {f : Int} {v : Value} {xs : List UInt8} (h : RdrC w F g v xs a f) (e : Int) : RdrC (w.setCell ⟨g, 3, none⟩ (.int .i64 e)) F g v xs a e :=
  ⟨h.fit, by simpa using h.lt, by rw [World.cell?_setCell_other _ _ _ _ (off_ne (by omega))]; exact h.c0, by rw [World.cell?_setCell_other _ _ _ _ (off_ne (by omega))]; exact h.c1, by rw [World.cell?_setCell_other _ _ _ _ (off_ne (by omega))]; exact h.c2, World.cell?_setCell_same _ _ _ h.c3, fun j => by simpa using h.fz j, h.le, h.small, h.own.keep ((Kp.refl (fun i => i = g) w).setCell (p := ⟨g, 3, none⟩) (.inl rfl) _) (fun i hi => hi.2)⟩
theorem kp1_set {w : World} {F : Nat → Prop} {g : Nat} (hg : F g) (i : Nat) (u : Value) : Kp F w (w.setCell ⟨g, i, none⟩ u) := (Kp.refl F w).setCell (p := ⟨g, i, none⟩) (.inl hg) u
theorem bad_c {w : World} {F : Nat → Prop} {g a : Nat} {f : Int} {v : Value} {xs : List UInt8} (h : RdrC w F g v xs a f) :
    Calls Try.prog 74 #[.pointer (some ⟨g, 0, none⟩)] w fun e w' => e = .returned (.bool (decide (f ≠ 0))) ∧ w = w' := by
  have h2 := h.c2
  have h3 := h.c3
  go_enter Try.func74, Try.ntmps74
  by_cases hf : f = 0
  · subst hf
    go_wp2
    go_ret
    exact ⟨rfl, rfl⟩
  · have hf' : ¬ f = 0 := hf
    go_wp2
    go_ret
    exact ⟨by simp [hf], rfl⟩
theorem bad_f {w : World} {F : Nat → Prop} {g a : Nat} {v : Value} {xs : List UInt8} (h : RdrC w F g v xs a 0) :
    Calls Try.prog 74 #[.pointer (some ⟨g, 0, none⟩)] w fun e w' => e = .returned (.bool false) ∧ w = w' := bad_c h
theorem bad_t {w : World} {F : Nat → Prop} {g a : Nat} {f : Int} {v : Value} {xs : List UInt8} (h : RdrC w F g v xs a f) (hf : f ≠ 0) :
    Calls Try.prog 74 #[.pointer (some ⟨g, 0, none⟩)] w fun e w' => e = .returned (.bool true) ∧ w = w' := by
  have := bad_c h
  rwa [show decide (f ≠ 0) = true by simp [hf]] at this
theorem left_c {w : World} {F : Nat → Prop} {g a : Nat} {f : Int} {v : Value} {xs : List UInt8} (h : RdrC w F g v xs a f) :
    Calls Try.prog 79 #[.pointer (some ⟨g, 0, none⟩)] w fun e w' => e = .returned (.int .i64 ((xs.length - a : Nat) : Int)) ∧ KpN w w' := by
  obtain ⟨A, c, rfl, hc⟩ := h.own.readsB.form
  have h0 := h.c0
  have h1 := h.c1
  have hle := h.le
  have hs := h.small
  have e1 : ((xs.length : Int) - (a : Int)) = ((xs.length - a : Nat) : Int) := by omega
  generalize hm : xs.length - a = m at *
  go_enter Try.func79, Try.ntmps79
  go_wp2
  go_region
  go_wp2
  go_ret
  exact ⟨rfl, (Kp.refl _ _).drew⟩
theorem err_c {w : World} {F : Nat → Prop} {g a : Nat} {f : Int} {v : Value} {xs : List UInt8} (h : RdrC w F g v xs a f) :
    Calls Try.prog 48 #[.pointer (some ⟨g, 0, none⟩)] w fun e w' => e = .returned (.int .i64 f) ∧ w = w' := by
  have h2 := h.c2
  have h3 := h.c3
  go_enter Try.func48, Try.ntmps48
  go_wp2
  go_ret
  exact ⟨rfl, rfl⟩
theorem fail_c {w : World} {F : Nat → Prop} {g a : Nat} {f e : Int} {v : Value} {xs : List UInt8} (hR : RdrC w F g v xs a f) :
    Calls Try.prog 45 #[.pointer (some ⟨g, 0, none⟩), .int .i64 e] w fun r w' => (∃ u, r = .returned u) ∧ RdrC w' F g v xs a (if f = 0 then e else f) ∧ Kp F w w' := by
  have h3 := hR.c3
  have f3 := hR.fz 3
  go_enter Try.func45, Try.ntmps45
  by_cases hf : f = 0
  · subst hf
    go_wp2_with fail
    refine (bad_f hR).mono ?_
    rintro r w2 ⟨rfl, rfl⟩
    have hw := hR.setFault e
    have k := kp1_set (w := w) hR.fit 3 (.int .i64 e)
    go_wp2
    go_end0
    exact ⟨⟨_, rfl⟩, hw, k⟩
  · go_wp2_with fail
    refine (bad_t hR hf).mono ?_
    rintro r w2 ⟨rfl, rfl⟩
    go_wp2
    go_end0
    exact ⟨⟨_, rfl⟩, hR, Kp.refl _ _⟩
/-- where a slice from place a on lies -/
def loA (A : Option Addr) (c a : Nat) : Option Addr := if c = a then A else A.map (·.add a)
theorem RdB.lo {w : World} {A : Option Addr} {n c : Nat} {xs : List UInt8} (h : RdB w (.slice A n c) xs) (a : Nat) (ha : a ≤ n) : RdB w (.slice (loA A c a) (n - a) (c - a)) (xs.drop a) := by
  have hn := h.len
  obtain ⟨_, A', c', hv, hc, _⟩ := id h
  injection hv with h1 h2 h3
  subst h1 h3
  unfold loA
  split
  · rename_i hca
    have hx : xs.drop a = [] := List.drop_eq_nil_of_le (by omega)
    rw [hx]
    exact ⟨rfl, A, c - a, by first | (simp; done) | (simp; omega), by simp, fun j u hu => by simp [bvs] at hu⟩
  · rcases A with _ | ad
    · have hx : xs = [] := by
        rcases xs with _ | ⟨x, r⟩
        · rfl
        · obtain ⟨ad, he, _⟩ := h.at_ 0 (by simp)
          cases he
      subst hx
      simp at hn
      subst hn
      exact ⟨by simp [bvs], none, c - a, by first | (simp; done) | (simp; omega), by simp, fun j u hu => by simp [bvs] at hu⟩
    · exact h.drop a ha
def rNum (xs : List UInt8) (a : Nat) (f : Int) (most : Nat) : Nat × Nat × Int :=
  if f ≠ 0 then (0, a, f) else if (numS (xs.drop a)).2.2 ≠ 0 then (0, a, ((numS (xs.drop a)).2.2 : Int))
  else if most < (numS (xs.drop a)).1 then (0, a, 12) else ((numS (xs.drop a)).1, a + (numS (xs.drop a)).2.1, 0)
theorem rNum_le (xs : List UInt8) (a : Nat) (f : Int) (most : Nat) (h : a ≤ xs.length) : (rNum xs a f most).2.1 ≤ xs.length := by
  unfold rNum
  have := numS_le (xs.drop a)
  simp at this
  split
  · exact h
  · split
    · exact h
    · split
      · exact h
      · show a + _ ≤ _
        omega
set_option maxHeartbeats 1600000 in
theorem rdNumber_c {w : World} {F : Nat → Prop} {g a most : Nat} {f : Int} {v : Value} {xs : List UInt8} (h : RdrC w F g v xs a f) (_hm : most < 18446744073709551616) :
    Calls Try.prog 47 #[.pointer (some ⟨g, 0, none⟩), .int .u64 (most : Int)] w fun e w' => e = .returned (.int .u64 ((rNum xs a f most).1 : Int)) ∧ RdrC w' F g v xs (rNum xs a f most).2.1 (rNum xs a f most).2.2 ∧ Kp F w w' := by
  go_enter Try.func47, Try.ntmps47
  by_cases hf : f = 0
  · subst hf
    go_wp2_with fail
    refine (bad_f h).mono ?_
    rintro e w2 ⟨rfl, rfl⟩
    go_wp2_with fail
    obtain ⟨A, c, rfl, hc⟩ := h.own.readsB.form
    have hle := h.le
    have hsm := h.small
    have hac : a ≤ c := by omega
    have hlei : (a : Int) ≤ (xs.length : Int) := by omega
    obtain ⟨n, k, e0, hN⟩ : ∃ n k e0, numS (xs.drop a) = (n, k, e0) := ⟨_, _, _, rfl⟩
    have hk : k ≤ xs.length - a := by have := numS_le (xs.drop a); rw [hN] at this; simpa using this
    have hn64 : n < 18446744073709551616 := by have := numS_lt (xs.drop a); rw [hN] at this; exact this
    have hr : rNum xs a 0 most = if e0 ≠ 0 then (0, a, (e0 : Int)) else if most < n then (0, a, 12) else (n, a + k, 0) := by
      rw [rNum, hN]
      simp
    have HR := Lib.hid hr
    have HN := Lib.hid hN
    clear hr hN
    refine rg_begin 17 (fun _ => False) (by kernel_rfl) (fun w1 d1 => ?_)
    have h1 := h.keepN d1
    refine rg_take 0 (d := (some 11)) (v := .pointer (some ⟨g, 0, none⟩)) (by decide) rfl rfl (by kernel_rfl) (by kernel_rfl) (by kernel_rfl) (fun _ _ _ h => h) rfl (fun W => rfl) ?_
    conv => arg 8; simp only [Act.put, List.setIfInBounds_toArray, List.set_cons_zero, List.set_cons_succ]
    refine rg_take 1 (d := (some 12)) (v := .pointer (some ⟨g, 0, none⟩)) (by decide) rfl rfl (by kernel_rfl) (by kernel_rfl) (by kernel_rfl) (fun _ _ _ h => h) rfl (fun W => by go_simp) ?_
    conv => arg 8; simp only [Act.put, List.setIfInBounds_toArray, List.set_cons_zero, List.set_cons_succ]
    refine rg_take 2 (d := (some 13)) (v := .pointer (some ⟨g, 0, none⟩)) (by decide) rfl rfl (by kernel_rfl) (by kernel_rfl) (by kernel_rfl) (fun _ _ _ h => h) rfl (fun W => by go_simp) ?_
    conv => arg 8; simp only [Act.put, List.setIfInBounds_toArray, List.set_cons_zero, List.set_cons_succ]
    refine rg_read 3 (d := (some 14)) (v := .slice A xs.length c) (by decide) (by kernel_rfl) (by kernel_rfl) rfl rfl (by kernel_rfl) (by kernel_rfl) (by kernel_rfl) (fun _ _ _ h => h) rfl (fun W hW => by have hc := (hW.cell (p := ⟨g, 0, none⟩) (h1.lt) (fun x => x)).trans (h1.c0); go_simp) ?_
    conv => arg 8; simp only [Act.put, List.setIfInBounds_toArray, List.set_cons_zero, List.set_cons_succ]
    refine rg_take 4 (d := (some 15)) (v := .pointer (some ⟨g, 0, none⟩)) (by decide) rfl rfl (by kernel_rfl) (by kernel_rfl) (by kernel_rfl) (fun _ _ _ h => h) rfl (fun W => rfl) ?_
    conv => arg 8; simp only [Act.put, List.setIfInBounds_toArray, List.set_cons_zero, List.set_cons_succ]
    refine rg_take 5 (d := (some 16)) (v := .pointer (some ⟨g, 0, none⟩)) (by decide) rfl rfl (by kernel_rfl) (by kernel_rfl) (by kernel_rfl) (fun _ _ _ h => h) rfl (fun W => by go_simp) ?_
    conv => arg 8; simp only [Act.put, List.setIfInBounds_toArray, List.set_cons_zero, List.set_cons_succ]
    refine rg_take 6 (d := (some 17)) (v := .pointer (some ⟨g, 1, none⟩)) (by decide) rfl rfl (by kernel_rfl) (by kernel_rfl) (by kernel_rfl) (fun _ _ _ h => h) rfl (fun W => by go_simp) ?_
    conv => arg 8; simp only [Act.put, List.setIfInBounds_toArray, List.set_cons_zero, List.set_cons_succ]
    refine rg_read 7 (d := (some 18)) (v := .int .i64 a) (by decide) (by kernel_rfl) (by kernel_rfl) rfl rfl (by kernel_rfl) (by kernel_rfl) (by kernel_rfl) (fun _ _ _ h => h) rfl (fun W hW => by have hc := (hW.cell (p := ⟨g, 1, none⟩) (h1.lt) (fun x => x)).trans (h1.c1); go_simp) ?_
    conv => arg 8; simp only [Act.put, List.setIfInBounds_toArray, List.set_cons_zero, List.set_cons_succ]
    refine rg_take 8 (d := (some 19)) (v := .slice (loA A c a) (xs.length - a) (c - a)) (by decide) rfl rfl (by kernel_rfl) (by kernel_rfl) (by kernel_rfl) (fun _ _ _ h => h) rfl (fun W => by unfold loA; rcases A with _ | ad <;> go_simp) ?_
    conv => arg 8; simp only [Act.put, List.setIfInBounds_toArray, List.set_cons_zero, List.set_cons_succ]
    refine rg_call 9 (d := (some 20)) (by kernel_rfl) (num_c (h1.own.readsB.lo a hle) (by simp; omega)) rfl rfl (by kernel_rfl) rfl rfl ?_
    rintro e w2 ⟨rfl, rfl⟩
    refine ⟨_, rfl, Kp.refl _ _, ?_⟩
    conv => arg 8; simp only [Act.put, List.setIfInBounds_toArray, List.set_cons_zero, List.set_cons_succ]
    rw [HN.out, num3]
    refine rg_take 10 (d := (some 10)) (v := .tuple #[.int .u64 n, .int .i64 k, .int .i64 e0]) (by decide) rfl rfl (by kernel_rfl) (by kernel_rfl) (by kernel_rfl) (fun _ _ _ h => h) rfl (fun W => rfl) ?_
    conv => arg 8; simp only [Act.put, List.setIfInBounds_toArray, List.set_cons_zero, List.set_cons_succ]
    refine rg_take 11 (d := (some 21)) (v := .int .u64 n) (by decide) rfl rfl (by kernel_rfl) (by kernel_rfl) (by kernel_rfl) (fun _ _ _ h => h) rfl (fun W => by go_simp) ?_
    conv => arg 8; simp only [Act.put, List.setIfInBounds_toArray, List.set_cons_zero, List.set_cons_succ]
    refine rg_take 12 (d := (some 22)) (v := .int .i64 k) (by decide) rfl rfl (by kernel_rfl) (by kernel_rfl) (by kernel_rfl) (fun _ _ _ h => h) rfl (fun W => by go_simp) ?_
    conv => arg 8; simp only [Act.put, List.setIfInBounds_toArray, List.set_cons_zero, List.set_cons_succ]
    refine rg_take 13 (d := (some 23)) (v := .int .i64 e0) (by decide) rfl rfl (by kernel_rfl) (by kernel_rfl) (by kernel_rfl) (fun _ _ _ h => h) rfl (fun W => by go_simp) ?_
    conv => arg 8; simp only [Act.put, List.setIfInBounds_toArray, List.set_cons_zero, List.set_cons_succ]
    refine rg_take 14 (d := (some 5)) (v := .int .u64 n) (by decide) rfl rfl (by kernel_rfl) (by kernel_rfl) (by kernel_rfl) (fun _ _ _ h => h) rfl (fun W => rfl) ?_
    conv => arg 8; simp only [Act.put, List.setIfInBounds_toArray, List.set_cons_zero, List.set_cons_succ]
    refine rg_take 15 (d := (some 6)) (v := .int .i64 k) (by decide) rfl rfl (by kernel_rfl) (by kernel_rfl) (by kernel_rfl) (fun _ _ _ h => h) rfl (fun W => rfl) ?_
    conv => arg 8; simp only [Act.put, List.setIfInBounds_toArray, List.set_cons_zero, List.set_cons_succ]
    refine rg_take 16 (d := (some 7)) (v := .int .i64 e0) (by decide) rfl rfl (by kernel_rfl) (by kernel_rfl) (by kernel_rfl) (fun _ _ _ h => h) rfl (fun W => rfl) ?_
    conv => arg 8; simp only [Act.put, List.setIfInBounds_toArray, List.set_cons_zero, List.set_cons_succ]
    refine rg_done (by kernel_rfl) ?_
    have hr := HR.out
    have f3 := h1.fz 3
    have f1 := h1.fz 1
    have c3 := h1.c3
    by_cases he : e0 = 0
    · subst he
      have hw0 := h1.setFault 0
      by_cases hmn : most < n
      · rw [if_neg (by simp), if_pos hmn] at hr
        have hmi : (most : Int) < (n : Int) := by omega
        have hw := h1.setFault 12
        have kw := Kp.after d1 (kp1_set (w := w1) h1.fit 3 (.int .i64 12))
        have HR2 := Lib.hid hr
        clear hr HR hw0
        go_wp2
        go_ret
        exact ⟨by rw [HR2.out]; rfl, by rw [HR2.out]; exact hw, kw⟩
      · rw [if_neg (by simp), if_neg hmn] at hr
        have hmi : ¬ (most : Int) < (n : Int) := by omega
        have c1 := h1.c1
        have hak : (a : Int) + (k : Int) = ((a + k : Nat) : Int) := by omega
        have hw := hw0.setAt (a + k) (by omega)
        have kw := Kp.after d1 ((kp1_set (w := w1) h1.fit 3 (.int .i64 0)).trans (kp1_set h1.fit 1 (.int .i64 ((a + k : Nat) : Int))) (fun _ _ x => x) (fun _ _ x => x))
        have HR2 := Lib.hid hr
        clear hr HR
        generalize a + k = ak at *
        go_wp2
        go_ret
        exact ⟨by rw [HR2.out]; rfl, by rw [HR2.out]; exact hw, kw⟩
    · rw [if_pos he] at hr
      have hei : ¬ (e0 : Int) = 0 := by omega
      have hw := h1.setFault e0
      have kw := Kp.after d1 (kp1_set (w := w1) h1.fit 3 (.int .i64 (e0 : Int)))
      have HR2 := Lib.hid hr
      clear hr HR
      go_wp2
      go_ret
      exact ⟨by rw [HR2.out]; rfl, by rw [HR2.out]; exact hw, kw⟩
  · have hr : rNum xs a f most = (0, a, f) := by rw [rNum, if_pos hf]
    rw [hr]
    go_wp2_with fail
    refine (bad_t h hf).mono ?_
    rintro e w2 ⟨rfl, rfl⟩
    go_wp2
    go_ret
    exact ⟨rfl, h, Kp.refl _ _⟩
end Go.Proofs.Yteokkpmndfekoaa
