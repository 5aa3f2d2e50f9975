/- The helpers of the statements on bundles: bytes, stays. -/
import Derived.Test.YteokkpmndfekoaaBA
import Derived.Laws.IdiomCopy
namespace Go.Proofs.Yteokkpmndfekoaa
open Go Go.RowKit
set_option maxRecDepth 100000

theorem u8Info : (Try.prog.info? 5).map (fun i => (i.zero, i.size, i.bytes)) = some (some (.int .u8 0), 1, 1) := by kernel_rfl
theorem run_copy_op {P : Program} {a : Act} {dst : Option Tmp} {t tn ty : TypeId} {s x : Operand} {pos : String} {af : Array Edge} {gd : Option (Nat × Bool)} {W w' : World} {vs vx v : Value} (h : (Builtin.copy_ #[t, tn] ty #[vs, vx]).run P W = .ok v w') (hs : a.eval s = vs) (hx : a.eval x = vx) :
    (execOp a.eval { dst := dst, op := .call { callee := .builtin .copy, args := #[s, x], argTypes := #[t, tn] }, type := ty, pos := pos, after := af, guard := gd }).run P W = .ok (.value v) w' := by
  unfold execOp
  simp only [resolve, invoke, builtin, Sem.run_bind, Sem.run_pure, Result.andThen_ok, List.map_toArray, List.map_cons, List.map_nil, hs, hx, h]
theorem run_mk {t e : TypeId} {z : Value} {size bytes : Nat} (ht : Try.prog.underlying t = some (.slice e)) (hinfo : (Try.prog.info? e).map (fun i => (i.zero, i.size, i.bytes)) = some (some z, size, bytes)) (n : Nat) (hb : bytes * n ≤ 281474976710656) (hn : n ≤ 1000000000) (w : World) :
    (Instr.makeSlice t (.int .i64 (n : Int)) (.int .i64 (n : Int))).run Try.prog w = .ok (.slice (some ⟨w.heap.size, 0, none⟩) n n) (w.alloc (.cells (madeCells z.cells (n * size)) e)) := by
  rcases hi : Try.prog.info? e with _ | i
  · rw [hi] at hinfo; cases hinfo
  · rw [hi] at hinfo
    simp only [Option.map_some, Option.some.injEq, Prod.mk.injEq] at hinfo
    obtain ⟨hz, hs, hbb⟩ := hinfo
    subst hs hbb
    have hb' : (i.bytes : Int) * (n : Int) ≤ 281474976710656 := by
      have h : ((i.bytes * n : Nat) : Int) ≤ 281474976710656 := by omega
      rwa [Int.natCast_mul] at h
    have := run_make (P := Try.prog) w t e i z ht hi hz .i64 .i64 (n : Int) (n : Int) (by omega) (Int.le_refl _) hb' (by omega)
    simpa only [Int.toNat_natCast] using this
/-- a row of zeros -/
theorem made_zeros (w : World) (n : Nat) (hn : n ≤ 1000000000) : ∃ W1, (Instr.makeSlice 27 (.int .i64 (n : Int)) (.int .i64 (n : Int))).run Try.prog w = .ok (.slice (some ⟨w.heap.size, 0, none⟩) n n) W1 ∧ OwB W1 5 (fun b => b = w.heap.size) (.slice (some ⟨w.heap.size, 0, none⟩) n n) (List.replicate n 0) ∧ KpN w W1 ∧ W1.heap.size = w.heap.size + 1 := by
  refine ⟨_, run_mk (t := 27) Try.underlying27 u8Info n (by omega) hn w, ?_, (Kp.refl _ w).alloc _, by simp⟩
  have e : (madeCells (Value.int .u8 0).cells (n * 1)).toList = bvs (List.replicate n 0) := by
    rw [show (Value.int .u8 0).cells = #[.int .u8 0] from rfl]
    apply List.ext_getElem
    · simp [madeCells, bvs]
    · intro i h1 h2
      simp [madeCells, bvs, bv, Nat.mod_one]
  have := OwC.lit w 5 1 n (madeCells (Value.int .u8 0).cells (n * 1)) (by simp only [maxLen]; omega) (by rw [size_madeCells])
  rw [e] at this
  unfold OwB
  rw [List.length_replicate]
  exact this.wide (fun b _ hb => by have := hb.1; have := hb.2; omega)
theorem Kp.setCells (b : Nat) : ∀ (vs : List Value) (o : Nat) (w : World), Kp (fun i => i = b) w (w.setCells b o vs)
  | [], _, w => Kp.refl _ w
  | v :: r, o, w => ((Kp.refl (fun i => i = b) w).setCell (p := ⟨b, o, none⟩) (.inl rfl) v).trans (Kp.setCells b r (o + 1) (w.setCell ⟨b, o, none⟩ v)) (fun _ _ x => x) (fun _ _ x => x)
/-- ys laid over xs from place i on -/
def patch {α : Type} : List α → Nat → List α → List α
  | xs, _, [] => xs
  | xs, i, y :: r => patch (xs.set i y) (i + 1) r
theorem patch_mid {α : Type} : ∀ (ys a b c : List α), b.length = ys.length → patch (a ++ b ++ c) a.length ys = a ++ ys ++ c
  | [], a, b, c, hb => by
    obtain rfl : b = [] := List.eq_nil_of_length_eq_zero hb
    rfl
  | y :: r, a, [], c, hb => by simp at hb
  | y :: r, a, x :: b, c, hb => by
    rw [patch]
    have h1 : (a ++ x :: b ++ c).set a.length y = (a ++ [y]) ++ b ++ c := by
      simp
    rw [h1]
    have := patch_mid r (a ++ [y]) b c (by simpa using hb)
    rw [List.length_append, List.length_singleton] at this
    rw [this]
    simp
theorem bvs_put (xs : List UInt8) (i : Nat) (y : UInt8) : bvs (xs.set i y) = (bvs xs).set i (bv y) := by simp [bvs]
theorem OwB.laidOver {e g n cap : Nat} {F : Nat → Prop} : ∀ (ys : List UInt8) (i : Nat) (w : World) (xs : List UInt8), OwC w e 1 F (.slice (some ⟨g, 0, none⟩) n cap) n (bvs xs) → OwC (w.setCells g i (bvs ys)) e 1 F (.slice (some ⟨g, 0, none⟩) n cap) n (bvs (patch xs i ys))
  | [], _, _, _, h => h
  | y :: r, i, w, xs, h => by
    have h1 := h.stored i (bv y)
    rw [← bvs_put] at h1
    exact OwB.laidOver r (i + 1) _ _ h1
/-- the marks behind -/
def m4 : List UInt8 := [201, 201, 201, 201]
/-- bytes in memory of their own, marks in the room behind -/
def MkB (w : World) (u : Value) (xs : List UInt8) : Prop := ∃ g, u = .slice (some ⟨g, 0, none⟩) xs.length (xs.length + 4) ∧ OwB w 5 (fun b => b = g) (.slice (some ⟨g, 0, none⟩) (xs.length + 4) (xs.length + 4)) (xs ++ m4)
theorem MkB.keep {w w' : World} {u : Value} {xs : List UInt8} (h : MkB w u xs) {S : Nat → Prop} (k : Kp S w w') (hs : ∀ b, u.ownBlock = some b → ¬ S b) : MkB w' u xs := by
  obtain ⟨g, rfl, ho⟩ := h
  exact ⟨g, rfl, ho.keepB k (fun b hb => hs b hb)⟩
theorem MkB.keepN {w w' : World} {u : Value} {xs : List UInt8} (h : MkB w u xs) (k : KpN w w') : MkB w' u xs := h.keep k (fun _ _ x => x)
theorem MkB.rd {w : World} {u : Value} {xs : List UInt8} (h : MkB w u xs) : RdB w u xs := by
  obtain ⟨g, rfl, ho⟩ := h
  have := ho.readsB.take xs.length (by omega)
  rwa [List.take_left] at this
def BytesP (xs : List UInt8) (w : World) (e : Ending) (w' : World) : Prop := ∃ u, e = .returned u ∧ MkB w' u xs ∧ (∀ b, u.ownBlock = some b → Iv w.heap.size w'.heap.size b) ∧ KpN w w'
/-- bytes are copied to the head of a row of zeros -/
theorem copy_in {w : World} {g L : Nat} {A : Option Addr} {c : Nat} {xs : List UInt8} (ho : OwB w 5 (fun b => b = g) (.slice (some ⟨g, 0, none⟩) (L + 4) (L + 4)) (List.replicate (L + 4) 0)) (h : RdB w (.slice A L c) xs) :
    ∃ w', (Builtin.copy_ #[27, 27] 3 #[.slice (some ⟨g, 0, none⟩) (L + 4) (L + 4), .slice A L c]).run Try.prog w = .ok (goInt L) w' ∧ OwB w' 5 (fun b => b = g) (.slice (some ⟨g, 0, none⟩) (L + 4) (L + 4)) (xs ++ List.replicate 4 0) ∧ Kp (fun b => b = g) w w' := by
  have hl := h.len
  subst hl
  rcases Nat.eq_zero_or_pos xs.length with h0 | h0
  · have hx : xs = [] := List.eq_nil_of_length_eq_zero h0
    subst hx
    exact ⟨w, run_copy_none w _ _ _ 5 _ _ _ _ _ _ Try.underlying27 (by kernel_rfl) (by simp), ho, Kp.refl _ _⟩
  · obtain ⟨ad, rfl, -⟩ := h.at_ 0 h0
    have hc : ∀ j v, (bvs xs)[j]? = some v → w.cell? (ad.add j) = some v := fun j v hv => by
      have hj : j < xs.length := by have := (List.getElem?_eq_some_iff.1 hv).1; rwa [bvs_length] at this
      obtain ⟨ad', e, hcell⟩ := h.at_ j hj
      injection e with e
      subst e
      rw [hcell, ← hv, bvs_get, List.getElem?_eq_getElem hj]
      rfl
    have hlen : (bvs xs).length = xs.length := bvs_length xs
    have hr := run_copy_cells (P := Try.prog) w 27 27 3 5 g 0 (xs.length + 4) (xs.length + 4) ad xs.length c (bvs xs) Try.underlying27 (by kernel_rfl) (by rw [hlen]; exact (Nat.min_eq_left (by omega)).symm) hc
      (fun j hj => by rw [Nat.zero_add, OwB.byteAt ho (by simp) j (by rw [hlen] at hj; simp; omega)]; rfl) (fun j _ => ho.frozenAt _) (fun v hv => by obtain ⟨b, _, rfl⟩ := List.mem_map.1 hv; rfl)
    rw [hlen] at hr
    refine ⟨_, hr, ?_, Kp.setCells g (bvs xs) 0 w⟩
    have e1 : (List.replicate (xs.length + 4) (0 : UInt8)).length = xs.length + 4 := by simp
    have h1 : OwC w 5 1 (fun b => b = g) (.slice (some ⟨g, 0, none⟩) (xs.length + 4) (xs.length + 4)) (xs.length + 4) (bvs (List.replicate (xs.length + 4) 0)) := by
      have := ho.c
      rwa [e1] at this
    have h2 := OwB.laidOver xs 0 w _ h1
    have e2 : patch (List.replicate (xs.length + 4) (0 : UInt8)) 0 xs = xs ++ List.replicate 4 0 := by
      have := patch_mid xs [] (List.replicate xs.length 0) (List.replicate 4 0) (by simp)
      rw [List.nil_append, List.replicate_append_replicate, List.nil_append] at this
      exact this
    rw [e2] at h2
    unfold OwB
    rw [show (xs ++ List.replicate 4 (0 : UInt8)).length = xs.length + 4 by simp]
    exact h2
def part4 (xs : List UInt8) (q : Nat) : List UInt8 := xs ++ (List.replicate q 201 ++ List.replicate (4 - q) 0)
theorem part4_len (xs : List UInt8) (q : Nat) (h : q ≤ 4) : (part4 xs q).length = xs.length + 4 := by simp [part4]; omega
theorem part4_set (xs : List UInt8) (q : Nat) (h : q < 4) : (part4 xs q).set (xs.length + q) 201 = part4 xs (q + 1) := by
  have e : 4 - q = (4 - (q + 1)) + 1 := by omega
  unfold part4
  rw [List.set_append, if_neg (by omega), Nat.add_sub_cancel_left, e, List.replicate_succ, List.replicate_succ', List.set_append, if_neg (by simp)]
  simp
set_option maxHeartbeats 1600000 in
theorem mkb_c {v : Value} {xs : List UInt8} {w : World} (h : RdB w v xs) (hl : xs.length ≤ 100000000) : Calls Try.prog 18 #[v] w (BytesP xs w) := by
  obtain ⟨A, c, rfl, -⟩ := h.form
  obtain ⟨L, hL⟩ : ∃ L, xs.length = L := ⟨_, rfl⟩
  rw [hL] at h hl ⊢
  obtain ⟨W1, hmk, ho1, k1, hz1⟩ := made_zeros w (L + 4) (by omega)
  obtain ⟨W2, hcp, ho2, k2⟩ := copy_in ho1 (h.keepN k1)
  have k02 : KpN w W2 := k1.fresh k2 (fun i e => by omega)
  have hz2 := k2.size
  rw [show ((L + 4 : Nat) : Int) = (L : Int) + 4 by omega] at hmk
  have HO := Lib.hid (show OwB W2 5 (fun b => b = w.heap.size) (.slice (some ⟨w.heap.size, 0, none⟩) (L + 4) (L + 4)) (part4 xs 0) from ho2)
  have HL := Lib.hid hL
  have HW := Lib.hid (show w.heap.size < W2.heap.size by omega)
  clear ho1 ho2 h hL k1 hz1 k2 hz2
  go_enter Try.func18, Try.ntmps18
  go_wp2_with ((with_reducible show wpList _ _ _ (Oper.mk _ (Op.call _) _ _ _ _ :: _) _ W1); refine wpl_val rfl (run_copy_op hcp rfl rfl) ?_)
  go_loopw [4] (fun i wr => ∃ q : Nat, q ≤ 4 ∧ i = .int .i64 ((L + q : Nat) : Int) ∧ OwB wr 5 (fun b => b = w.heap.size) (.slice (some ⟨w.heap.size, 0, none⟩) (L + 4) (L + 4)) (part4 xs q) ∧ KpN w wr ∧ W2.heap.size ≤ wr.heap.size) (fun i _ => L + 4 - (intOf i).toNat)
  case atStart => exact ⟨0, Nat.zero_le _, rfl, HO.out, k02, Nat.le_refl _⟩
  case round =>
    clear hmk hcp
    obtain ⟨q, hq, rfl, ho, hk, hzr⟩ := hrel
    have hlen := part4_len xs q hq
    rw [HL.out] at hlen
    obtain ⟨R, hR⟩ : ∃ R, L + q = R := ⟨_, rfl⟩
    by_cases hlt : q < 4
    · have ck := ho.byteAt hlen.symm (L + q) (by omega)
      have zk := ho.frozenAt (L + q)
      have hp := ho.putB hlen.symm (L + q) 201
      have hset := part4_set xs q hlt
      rw [HL.out] at hset
      rw [hset] at hp
      have kp := hk.setCell (p := ⟨w.heap.size, L + q, none⟩) (.inr (Nat.le_refl _)) (bv 201)
      obtain ⟨bb, hbb⟩ : ∃ bb, bv ((part4 xs q)[L + q]'(by omega)) = bb := ⟨_, rfl⟩
      rw [hbb, hR] at ck
      rw [hR] at zk hp kp ⊢
      have hRL : R < L + 4 := by omega
      have hRq : R + 1 = L + (q + 1) := by omega
      have e201 : bv 201 = .int .u8 201 := rfl
      rw [e201] at hp kp
      have HP := Lib.hid (And.intro hp (And.intro hRq hzr))
      clear hlen ho hp hbb hset hR hRq e201 hzr
      go_wp2_with fail
      go_roundw
      case rel => exact ⟨q + 1, by omega, by rw [← HP.out.2.1]; go_num, HP.out.1, kp, by have := HP.out.2.2; simpa using this⟩
      case measure => (have := HP.out.2.1; simp [intOf]; omega)
    · obtain rfl : q = 4 := by omega
      have hfin : BytesP xs w (.returned (.slice (some ⟨w.heap.size, 0, none⟩) L (L + 4))) wr := by
        refine ⟨_, rfl, ⟨w.heap.size, by rw [HL.out], by rw [HL.out]; exact ho⟩, fun b hb => ?_, hk⟩
        have hb : w.heap.size = b := Option.some.inj hb
        have := HW.out
        exact ⟨by omega, by omega⟩
      have HF := Lib.hid hfin
      clear hlen ho hfin hR hzr
      go_wp2_with fail
      go_ret
      exact HF.out
def TrueP (w : World) (e : Ending) (w' : World) : Prop := e = .returned (.bool true) ∧ KpN w w'
theorem mk4_at (xs : List UInt8) (j : Nat) (h1 : xs.length ≤ j) (h2 : j < xs.length + 4) (hj : j < (xs ++ m4).length) : (xs ++ m4)[j] = 201 := by
  rw [List.getElem_append_right h1]
  have : j - xs.length < 4 := by omega
  obtain ⟨k, hk⟩ : ∃ k, j - xs.length = k := ⟨_, rfl⟩
  simp only [hk]
  rw [hk] at this
  match k, this with
  | 0, _ => rfl
  | 1, _ => rfl
  | 2, _ => rfl
  | 3, _ => rfl
set_option maxHeartbeats 1600000 in
theorem stays_c {u v : Value} {xs : List UInt8} {w : World} (hu : MkB w u xs) (hv : RdB w v xs) (hl : xs.length ≤ 100000000) : Calls Try.prog 22 #[u, v] w (TrueP w) := by
  obtain ⟨g, rfl, ho⟩ := hu
  obtain ⟨B, c, rfl, -⟩ := hv.form
  obtain ⟨L, hL⟩ : ∃ L, xs.length = L := ⟨_, rfl⟩
  rw [hL] at ho hv hl ⊢
  have hgl := ho.lt g rfl
  have hat : ∀ wr, KpN w wr → ∀ j, L ≤ j → j < L + 4 → wr.cell? ⟨g, j, none⟩ = some (.int .u8 201) := fun wr kr j h1 h2 => by
    have hj : j < (xs ++ m4).length := by simp [m4]; omega
    have := (ho.keepN kr).byteAt (by simp [m4]; omega) j hj
    rw [mk4_at xs j (by omega) (by omega) hj] at this
    exact this
  have hrd : RdB w (.slice (some ⟨g, 0, none⟩) L (L + 4)) xs := by
    have := ho.readsB.take L (by omega)
    rwa [List.take_left' hL] at this
  have HAT := Lib.hid hat
  have HRD := Lib.hid hrd
  have HV := Lib.hid hv
  have hcap : L + 4 ≤ L + 4 := Nat.le_refl _
  have hL4 : L ≤ L + 4 := by omega
  have hlc : ((L : Int) + 4 < (L : Int)) = False := propext ⟨fun h => by omega, fun h => h.elim⟩
  clear hat hrd hv ho hL
  go_enter Try.func22, Try.ntmps22
  go_wp2_with fail
  go_loopw [6] (fun i wr => ∃ q : Nat, q ≤ 4 ∧ i = .int .i64 ((L + q : Nat) : Int) ∧ KpN w wr) (fun i _ => L + 4 - (intOf i).toNat)
  case atStart => exact ⟨0, Nat.zero_le _, rfl, Kp.refl _ _⟩
  case round =>
    obtain ⟨q, hq, rfl, hk⟩ := hrel
    obtain ⟨R, hR⟩ : ∃ R, L + q = R := ⟨_, rfl⟩
    by_cases hlt : q < 4
    · have ck := HAT.out wr hk (L + q) (by omega) (by omega)
      rw [hR] at ck ⊢
      have hRL : R < L + 4 := by omega
      have HR := Lib.hid (show R + 1 = L + (q + 1) by omega)
      clear hR
      go_wp2_with fail
      go_roundw
      case rel => exact ⟨q + 1, by omega, by rw [← HR.out]; go_num, hk⟩
      case measure => (have := HR.out; simp [intOf]; omega)
    · obtain rfl : q = 4 := by omega
      clear hR
      go_wp2_with fail
      refine rg_begin 9 (fun _ => False) (by kernel_rfl) (fun w3 d3 => ?_)
      refine rg_take 0 (d := (some 25)) (v := .slice (some ⟨g, 0, none⟩) (L + 4) (L + 4)) (by decide) rfl rfl (by kernel_rfl) (by kernel_rfl) (by kernel_rfl) (fun _ _ _ h => h) rfl (fun W => rfl) ?_
      conv => arg 8; simp only [Act.put, List.setIfInBounds_toArray, List.set_cons_zero, List.set_cons_succ]
      refine rg_take 1 (d := (some 26)) (v := .slice B L c) (by decide) rfl rfl (by kernel_rfl) (by kernel_rfl) (by kernel_rfl) (fun _ _ _ h => h) rfl (fun W => rfl) ?_
      conv => arg 8; simp only [Act.put, List.setIfInBounds_toArray, List.set_cons_zero, List.set_cons_succ]
      refine rg_take 2 (d := (some 27)) (v := .int .i64 L) (by decide) rfl rfl (by kernel_rfl) (by kernel_rfl) (by kernel_rfl) (fun _ _ _ h => h) rfl (fun W => by go_simp) ?_
      conv => arg 8; simp only [Act.put, List.setIfInBounds_toArray, List.set_cons_zero, List.set_cons_succ]
      refine rg_take 3 (d := (some 28)) (v := .slice (some ⟨g, 0, none⟩) L (L + 4)) (by decide) rfl rfl (by kernel_rfl) (by kernel_rfl) (by kernel_rfl) (fun _ _ _ h => h) rfl (fun W => by go_simp) ?_
      conv => arg 8; simp only [Act.put, List.setIfInBounds_toArray, List.set_cons_zero, List.set_cons_succ]
      refine rg_conv 4 (d := (some 29)) ((HRD.out.keepN hk).keepN d3) (fun _ _ x => x) Try.underlying27 Try.underlying5 Try.underlying9 (by decide) (by kernel_rfl) (by kernel_rfl) rfl rfl (by kernel_rfl) (by kernel_rfl) (by kernel_rfl) (fun _ _ _ h => h) rfl rfl ?_
      conv => arg 8; simp only [Act.put, List.setIfInBounds_toArray, List.set_cons_zero, List.set_cons_succ]
      refine rg_take 5 (d := (some 30)) (v := .slice B L c) (by decide) rfl rfl (by kernel_rfl) (by kernel_rfl) (by kernel_rfl) (fun _ _ _ h => h) rfl (fun W => rfl) ?_
      conv => arg 8; simp only [Act.put, List.setIfInBounds_toArray, List.set_cons_zero, List.set_cons_succ]
      refine rg_conv1 6 (d := (some 31)) ((HV.out.keepN hk).keepN d3) Try.underlying27 Try.underlying5 Try.underlying9 rfl rfl (by kernel_rfl) rfl rfl ?_
      conv => arg 8; simp only [Act.put, List.setIfInBounds_toArray, List.set_cons_zero, List.set_cons_succ]
      refine rg_take 7 (d := (some 32)) (v := .bool true) (by decide) rfl rfl (by kernel_rfl) (by kernel_rfl) (by kernel_rfl) (fun _ _ _ h => h) rfl (fun W => by go_simp) ?_
      conv => arg 8; simp only [Act.put, List.setIfInBounds_toArray, List.set_cons_zero, List.set_cons_succ]
      refine rg_take 8 (d := (some 4)) (v := .bool true) (by decide) rfl rfl (by kernel_rfl) (by kernel_rfl) (by kernel_rfl) (fun _ _ _ h => h) rfl (fun W => rfl) ?_
      conv => arg 8; simp only [Act.put, List.setIfInBounds_toArray, List.set_cons_zero, List.set_cons_succ]
      refine rg_done (by kernel_rfl) ?_
      go_wp2_with fail
      go_ret
      exact ⟨rfl, hk.thenN d3⟩
end Go.Proofs.Yteokkpmndfekoaa
