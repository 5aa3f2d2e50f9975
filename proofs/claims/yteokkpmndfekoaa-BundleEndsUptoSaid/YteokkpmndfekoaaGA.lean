/- reading a block: plain laws; want, the closure that asks; blocks of one's own. -/
import Derived.Test.YteokkpmndfekoaaFX
namespace Go.Proofs.Yteokkpmndfekoaa
open Go Go.RowKit Go.ChangeShapes Go.WideShapes Go.ChangeAt
set_option maxRecDepth 100000

theorem int_beq (a b : Nat) : ((a : Int) == (b : Int)) = decide (a = b) := by
  rw [Bool.eq_iff_iff]
  simp only [beq_iff_eq, decide_eq_true_eq]
  omega
theorem rAsk_ne {f : Int} (h : f ≠ 0) (b : Bool) : rAsk b f = f := by
  unfold rAsk
  cases b
  · rfl
  · exact rF_ne h 20
theorem rAsk_rAsk (b c : Bool) (f : Int) : rAsk b (rAsk c f) = rAsk (c || b) f := by
  cases c
  · rfl
  · by_cases h : f = 0
    · subst h
      cases b <;> rfl
    · rw [rAsk_ne h, rAsk_ne h, rAsk_ne h]
theorem rWant_eq (xs : List UInt8) (a : Nat) (f : Int) (most : Nat) : rWant xs a f most = ((rNum xs a f 281474976710655).1, (rNum xs a f 281474976710655).2.1, rAsk (decide (most < (rNum xs a f 281474976710655).1)) (rNum xs a f 281474976710655).2.2) := by
  unfold rWant rAsk
  by_cases h : most < (rNum xs a f 281474976710655).1
  · rw [if_pos h, if_pos (by simpa using h)]
  · rw [if_neg h, if_neg (by simpa using h)]
theorem tyBad_nil (t : Nat) : tyBad t [] = (decide (255 < t) || decide (t < 2)) := by
  unfold tyBad
  simp [Bool.or_comm]
theorem tyBad_next (t : Nat) (l : List Blk) (q : Nat) (h : q < l.length) : tyBad t (l.take (q + 1)) = (tyBad t (l.take q) || (known t && decide (l[q].ty = t))) := by
  unfold tyBad
  rw [List.take_succ_eq_append_getElem h, List.any_append]
  cases known t <;> simp [Bool.or_assoc]
theorem nuBad_nil (t : Nat) : nuBad t [] = (decide (255 < t) || decide (t < 2)) := by
  unfold nuBad
  simp [Bool.or_comm]
theorem nuBad_next (t : Nat) (l : List Blk) (q : Nat) (h : q < l.length) : nuBad t (l.take (q + 1)) = (nuBad t (l.take q) || decide (l[q].nu = t)) := by
  unfold nuBad
  rw [List.take_succ_eq_append_getElem h, List.any_append]
  simp [Bool.or_assoc]
theorem decD_eq (xs : List UInt8) (t n g a : Nat) (f : Int) : decD xs t a f = ((rBytes xs a f 64).1, (rBytes xs a f 64).2.1, rAsk (decide ((rBytes xs a f 64).2.2 = 0) && !tellsB ⟨t, n, g, (rBytes xs a f 64).1⟩) (rBytes xs a f 64).2.2) := by
  unfold decD
  by_cases h : (rBytes xs a f 64).2.2 = 0
  · have := (rBytes_zero (most := 64) h).2.1
    rw [show ((64 : Nat) : Int) = 64 from rfl] at this
    unfold tellsB
    simp [h, this]
  · rw [rAsk_ne h, rAsk_ne h]
set_option maxHeartbeats 1600000 in
theorem want_c {w : World} {F : Nat → Prop} {g a most : Nat} {f : Int} {v : Value} {xs : List UInt8} (h : RdrC w F g v xs a f) (_hm : U64 most) :
    Calls Try.prog 46 #[.pointer (some ⟨g, 0, none⟩), n64 most] w fun e w' => e = .returned (n64 (rWant xs a f most).1) ∧ RdrC w' F g v xs (rWant xs a f most).2.1 (rWant xs a f most).2.2 ∧ Kp F w w' := by
  rw [rWant_eq]
  have hN := num48_c h
  obtain ⟨n, a', f', hr⟩ : ∃ n a' f', rNum xs a f 281474976710655 = (n, a', f') := ⟨_, _, _, rfl⟩
  rw [hr] at hN ⊢
  dsimp only at hN ⊢
  clear hr h
  go_enter Try.func46, Try.ntmps46
  go_wp2_with fail
  refine hN.mono ?_
  rintro e w2 ⟨rfl, hR, k2⟩
  clear hN
  by_cases hl : most < n
  · have HD := Lib.hid (show decide (most < n) = true by simpa using hl)
    have hF := fail_c (e := 20) hR
    have HK := Lib.hid k2
    clear hR k2
    go_wp2_with fail
    refine hF.mono ?_
    rintro e w3 ⟨⟨u, rfl⟩, hR3, k3⟩
    have HF := Lib.hid (And.intro hR3 (HK.out.trans k3 (fun _ _ x => x) (fun _ _ x => x)))
    clear hR3 k3 hF
    go_wp2
    go_ret
    exact ⟨rfl, by rw [HD.out]; exact HF.out.1, HF.out.2⟩
  · have HD := Lib.hid (show decide (most < n) = false by simpa using hl)
    have hl' : decide (most < n) = false := HD.out
    have HF := Lib.hid (And.intro hR k2)
    clear hR k2 hl
    go_wp2
    go_ret
    exact ⟨rfl, by rw [HD.out]; exact HF.out.1, HF.out.2⟩
set_option maxHeartbeats 1600000 in
theorem ask_c {w : World} {F : Nat → Prop} {g a B : Nat} {f : Int} {v : Value} {xs : List UInt8} (h : RdrC w F g v xs a f) (hB : w.cell? ⟨B, 0, none⟩ = some (.pointer (some ⟨g, 0, none⟩))) (bad : Bool) :
    Calls Try.prog 76 #[.bool bad, .pointer (some ⟨B, 0, none⟩)] w fun e w' => (∃ u, e = .returned u) ∧ RdrC w' F g v xs a (rAsk bad f) ∧ Kp F w w' := by
  cases bad
  · have HF := Lib.hid h
    clear h
    go_enter Try.func76, Try.ntmps76
    go_wp2_with fail
    go_end0
    exact ⟨⟨_, rfl⟩, HF.out, Kp.refl _ _⟩
  · have hF := fail_c (e := 20) h
    clear h
    go_enter Try.func76, Try.ntmps76
    go_wp2_with fail
    refine hF.mono ?_
    rintro e w3 ⟨⟨u, rfl⟩, hR3, k3⟩
    have HF := Lib.hid (And.intro hR3 k3)
    clear hR3 k3 hF
    go_wp2_with fail
    go_end0
    exact ⟨⟨_, rfl⟩, HF.out.1, HF.out.2⟩
/-! ### blocks of one's own -/
def blC (p : Value × Blk) : List Value := [n64 p.2.ty, n64 p.2.nu, n64 p.2.fl, p.1]
def blCs (l : List (Value × Blk)) : List Value := l.flatMap blC
theorem blCs_cons (s : Value × Blk) (l : List (Value × Blk)) : blCs (s :: l) = blC s ++ blCs l := rfl
theorem blCs_len (l : List (Value × Blk)) : (blCs l).length = l.length * 4 := by
  induction l with
  | nil => rfl
  | cons d r ih => rw [blCs_cons, List.length_append, ih, List.length_cons]; simp [blC]; omega
theorem blCs_app (xs ys : List (Value × Blk)) : blCs (xs ++ ys) = blCs xs ++ blCs ys := by simp [blCs]
theorem blCs_one (s : Value × Blk) : blCs [s] = blC s := by simp [blCs]
theorem blCs_get (ls : List (Value × Blk)) : ∀ (i : Nat) (h : i < ls.length) (k : Nat), k < 4 → (blCs ls)[i * 4 + k]? = (blC ls[i])[k]? := by
  induction ls with
  | nil => intro i h; simp at h
  | cons d r ih =>
    intro i h k hk
    cases i with
    | zero =>
      rw [blCs_cons, Nat.zero_mul, Nat.zero_add, List.getElem?_append_left (by simp [blC]; exact hk)]
      rfl
    | succ i =>
      rw [blCs_cons, List.getElem?_append_right (by simp [blC]; omega), show (i + 1) * 4 + k - (blC d).length = i * 4 + k by simp [blC]; omega, ih i (by simpa using h) k hk]
      rfl
structure OwBl (w : World) (T : Nat) (F : Nat → Prop) (bv : Value) (ls : List (Value × Blk)) : Prop where
  row : OwC w T 4 F bv ls.length (blCs ls)
  each : ∀ p ∈ ls, OwB w 5 F p.1 p.2.da
  num : ∀ p ∈ ls, U64 p.2.ty ∧ U64 p.2.nu ∧ U64 p.2.fl
  apart : ls.Pairwise fun p q => ∀ k, p.1.ownBlock = some k → q.1.ownBlock ≠ some k
section
variable {w w' : World} {T : Nat} {F G : Nat → Prop} {v : Value} {l : List (Value × Blk)}
theorem OwBl.nil (w : World) (T : Nat) (F : Nat → Prop) : OwBl w T F (.slice none 0 0) [] := ⟨OwC.nil w T 4 F, fun _ h => (List.not_mem_nil h).elim, fun _ h => (List.not_mem_nil h).elim, List.Pairwise.nil⟩
theorem OwBl.keep (h : OwBl w T F v l) {S : Nat → Prop} (k : Kp S w w') (hs : ∀ i, F i → ¬ S i) : OwBl w' T F v l := ⟨h.row.keep k hs, fun s hsm => (h.each s hsm).keep k hs, h.num, h.apart⟩
theorem OwBl.keepN (h : OwBl w T F v l) (k : KpN w w') : OwBl w' T F v l := h.keep k (fun _ _ x => x)
theorem OwBl.wide (h : OwBl w T F v l) (hg : ∀ k, k < w.heap.size → F k → G k) : OwBl w T G v l := ⟨h.row.wide hg, fun s hsm => (h.each s hsm).wide hg, h.num, h.apart⟩
theorem OwBl.shape (h : OwBl w T F v l) : ∃ A c, v = .slice A l.length c ∧ l.length ≤ c := by
  obtain ⟨_, A, c, rfl, hc, _⟩ := h.row.reads
  exact ⟨A, c, rfl, hc⟩
theorem OwBl.sl (h : OwBl w T F v l) : SlAt w 4 BlkAt v (l.map Prod.snd) := by
  obtain ⟨hl, A, c, rfl, hc, hr⟩ := h.row.reads
  refine ⟨A, c, by simp, by simpa using hc, fun j hj => ?_⟩
  have hj' : j < l.length := by simpa using hj
  have h0 : (blCs l)[j * 4]? = some (n64 l[j].2.ty) := by have := blCs_get l j hj' 0 (by omega); simpa [blC] using this
  obtain ⟨ad, rfl, -⟩ := hr _ _ h0
  refine ⟨ad, blC l[j], rfl, rfl, fun k u hk => ?_, ⟨⟨l[j].1, by simp [blC], by simpa using (h.each _ (List.getElem_mem hj')).readsB⟩, by simpa using h.num _ (List.getElem_mem hj')⟩⟩
  have hk4 : k < 4 := by have := (List.getElem?_eq_some_iff.1 hk).1; simpa [blC] using this
  have h1 : (blCs l)[j * 4 + k]? = some u := by rw [blCs_get l j hj' k hk4]; exact hk
  obtain ⟨ad', e, hc2⟩ := hr _ _ h1
  injection e with e
  subst e
  rw [add_add]
  exact hc2
theorem OwBl.one (h : OwBl w T F v l) : ∀ u ∈ blCs l, u.oneCell' = true := by
  intro u hu
  obtain ⟨s, hs, hu⟩ := List.mem_flatMap.1 hu
  have h1 := (h.each s hs).oneCell
  simp [blC] at hu
  rcases hu with rfl | rfl | rfl | rfl <;> first | exact h1 | rfl
theorem OwBl.push {xv : Value} (h : OwBl w T F v l) {d : Value} {x : Blk} (ou : OwB w 5 G d x.da) (hG : ∀ i, F i → ¬ G i) (hx : RdC w 4 xv 1 (blC (d, x))) (hu : U64 x.ty ∧ U64 x.nu ∧ U64 x.fl) (hn : l.length ≤ 100000000) {t : Nat} (ht : Try.prog.underlying t = some (.slice T)) (hi : (Try.prog.info? T).map (fun i => (i.zero, i.size, i.bytes)) = some (some (.agg #[.int .u64 0, .int .u64 0, .int .u64 0, .slice none 0 0]), 4, 48)) (hT : T ≠ 5) :
    ∃ v' w', (Builtin.append_ #[t, t] t #[v, xv]).run Try.prog w = .ok v' w' ∧ OwBl w' T (fun k => F k ∨ G k ∨ Iv w.heap.size w'.heap.size k) v' (l ++ [(d, x)]) ∧ Kp F w w' := by
  have h1s : ∀ u ∈ blC (d, x), u.oneCell' = true := by
    intro u hu
    have h1 := ou.oneCell
    simp [blC] at hu
    rcases hu with rfl | rfl | rfl | rfl <;> first | exact h1 | rfl
  obtain ⟨v', w', hr, h1, h2, h3⟩ := run_app (P := Try.prog) w (ty := t) ht hi rfl (by omega) h.row hx h1s (by omega) (by omega)
  refine ⟨v', w', hr, ⟨?_, fun y hy => ?_, fun y hy => ?_, ?_⟩, h2.mono (fun i _ e => h.row.fit i e)⟩
  · rw [List.length_append, List.length_singleton, blCs_app, blCs_one]
    exact h1.wide (fun k _ hh => by
      rcases hh with hh | hh
      · exact .inl hh
      · exact .inr (.inr hh))
  · rcases List.mem_append.1 hy with hy | hy
    · exact ((h.each y hy).keepB h2 (fun i hi hi2 => h.row.neT (h.each y hy) hT i hi2 hi)).wide (fun _ _ x => .inl x)
    · obtain rfl := List.mem_singleton.1 hy
      exact (ou.keepB h2 (fun i hi hi2 => h.row.neT ou hT i hi2 hi)).wide (fun _ _ x => .inr (.inl x))
  · rcases List.mem_append.1 hy with hy | hy
    · exact h.num y hy
    · obtain rfl := List.mem_singleton.1 hy
      exact hu
  · rw [List.pairwise_append]
    refine ⟨h.apart, List.pairwise_singleton _ _, fun p hp q hq k hk hk2 => ?_⟩
    obtain rfl := List.mem_singleton.1 hq
    exact hG k ((h.each p hp).fit k hk) (ou.fit k hk2)
end
/-- a bundle of one's own: its blocks, their data, the payload; no two share memory -/
structure OwBd (w : World) (T : Nat) (F : Nat → Prop) (bv pv : Value) (b : Bdl) (ls : List (Value × Blk)) : Prop where
  ok : BdOk b
  bl : OwBl w T F bv ls
  eq : ls.map Prod.snd = b.bl
  pl : OwB w 5 F pv b.pl
  apart : ∀ p ∈ ls, ∀ k, p.1.ownBlock = some k → pv.ownBlock ≠ some k
theorem OwBd.rd {w : World} {T : Nat} {F : Nat → Prop} {bv pv : Value} {b : Bdl} {ls : List (Value × Blk)} (h : OwBd w T F bv pv b ls) : RdBd w bv pv b := ⟨h.ok, by rw [← h.eq]; exact h.bl.sl, h.pl.readsB⟩
theorem OwBd.keep {w w' : World} {T : Nat} {F : Nat → Prop} {bv pv : Value} {b : Bdl} {ls : List (Value × Blk)} (h : OwBd w T F bv pv b ls) {S : Nat → Prop} (k : Kp S w w') (hs : ∀ i, F i → ¬ S i) : OwBd w' T F bv pv b ls := ⟨h.ok, h.bl.keep k hs, h.eq, h.pl.keep k hs, h.apart⟩
theorem OwBd.keepN {w w' : World} {T : Nat} {F : Nat → Prop} {bv pv : Value} {b : Bdl} {ls : List (Value × Blk)} (h : OwBd w T F bv pv b ls) (k : KpN w w') : OwBd w' T F bv pv b ls := h.keep k (fun _ _ x => x)
theorem OwBd.wide {w : World} {T : Nat} {F G : Nat → Prop} {bv pv : Value} {b : Bdl} {ls : List (Value × Blk)} (h : OwBd w T F bv pv b ls) (hg : ∀ k, k < w.heap.size → F k → G k) : OwBd w T G bv pv b ls := ⟨h.ok, h.bl.wide hg, h.eq, h.pl.wide hg, h.apart⟩
theorem OwBd.none (w : World) (T : Nat) (F : Nat → Prop) : OwBd w T F (.slice none 0 0) (.slice none 0 0) noBdl [] := ⟨by unfold BdOk U64 noBdl; simp, OwBl.nil w T F, rfl, OwB.nil w _ F, fun _ h => (List.not_mem_nil h).elim⟩
theorem run_oneBlk {x : Operand} {t n f : Int} {A : Option Addr} {l c : Nat} {a : Act} {dst : Option Tmp} {ty : TypeId} {pos : String} {af : Array Edge} {gd : Option (Nat × Bool)} {w : World}
    (hx : a.eval x = .agg #[.int .u64 t, .int .u64 n, .int .u64 f, .slice A l c]) :
    (execOp a.eval { dst := dst, op := .buildSlice 32 1 #[(0, x)], type := ty, pos := pos, after := af, guard := gd }).run Try.prog w = .ok (.value (.slice (some ⟨w.heap.size, 0, none⟩) 1 1)) (w.alloc (.cells #[.int .u64 t, .int .u64 n, .int .u64 f, .slice A l c] 37)) := by
  unfold execOp
  simp only [List.map_toArray, List.map_cons, List.map_nil, hx, Sem.run_bind]
  have : (Instr.buildSlice 32 1 #[(0, .agg #[.int .u64 t, .int .u64 n, .int .u64 f, .slice A l c])]).run Try.prog w = .ok (.slice (some ⟨w.heap.size, 0, none⟩) 1 1) (w.alloc (.cells #[.int .u64 t, .int .u64 n, .int .u64 f, .slice A l c] 37)) := by
    kernel_rfl
  rw [this]
  simp only [Result.andThen_ok, Sem.run_pure]
theorem rblkInfo : (Try.prog.info? 40).map (fun i => (i.zero, i.size, i.bytes)) = some (some (.agg #[.int .u64 0, .int .u64 0, .int .u64 0, .slice none 0 0]), 4, 48) := by kernel_rfl
end Go.Proofs.Yteokkpmndfekoaa
