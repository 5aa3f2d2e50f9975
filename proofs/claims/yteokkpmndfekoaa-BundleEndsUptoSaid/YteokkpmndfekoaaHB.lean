/- Wrap: what it answers is memory of its own. -/
import Derived.Test.YteokkpmndfekoaaGA
namespace Go.Proofs.Yteokkpmndfekoaa
open Go Go.RowKit
set_option maxRecDepth 100000
theorem wpl_valg {P : Program} {o : Oper} {ops : Array Oper} {rest : List Oper} {a : Act} {w w' : World} {v : Value} {Q : Exit → Act → World → Prop} (hg : Region.wanted o (yielded ops a.tmps) = true) (h : (execOp a.eval o).run P w = .ok (.value v) w') (hk : wpList P ops Q rest (a.put o.dst v) w') : wpList P ops Q (o :: rest) a w :=
  wpList_step fun K hK => by rw [if_pos hg]; exact wp_val h (hK _ _ hk)
theorem run_max5_op {P : Program} {a : Act} {dst : Option Tmp} {ty : TypeId} {ts : Array TypeId} {x0 x1 x2 x3 x4 : Operand} {p0 p1 p2 p3 p4 r : Int} {pos : String} {af : Array Edge} {gd : Option (Nat × Bool)} {W : World} (hr : max (max (max (max p0 p1) p2) p3) p4 = r)
    (h0 : a.eval x0 = .int .u64 p0) (h1 : a.eval x1 = .int .u64 p1) (h2 : a.eval x2 = .int .u64 p2) (h3 : a.eval x3 = .int .u64 p3) (h4 : a.eval x4 = .int .u64 p4) :
    (execOp a.eval { dst := dst, op := .call { callee := .builtin .max, args := #[x0, x1, x2, x3, x4], argTypes := ts }, type := ty, pos := pos, after := af, guard := gd }).run P W = .ok (.value (.int .u64 r)) W := by
  have hm : ∀ y z : Int, (if y < z then z else y) = max y z := fun y z => by split <;> omega
  unfold execOp
  simp only [resolve, invoke, builtin, Sem.run_bind, Sem.run_pure, Result.andThen_ok, List.map_toArray, List.map_cons, List.map_nil, h0, h1, h2, h3, h4]
  simp only [Builtin.max_, Builtin.max2, List.foldlM_cons, List.foldlM_nil, Sem.run_bind, Sem.run_pure, Result.andThen_ok, gt_iff_lt, hm, hr]
def WrapO (s : Int) (ti sq li fr to : Nat) (xs : List UInt8) (nw : Bool) (w : World) (e : Ending) (w' : World) : Prop :=
  ∃ bv pv ls, e = .returned (.tuple #[bdV (wrapB s ti sq li fr to xs nw) bv pv, .int .i64 (wrapF s ti sq li fr to xs)]) ∧ OwBd w' 37 (Iv w.heap.size w'.heap.size) bv pv (wrapB s ti sq li fr to xs nw) ls ∧ KpN w w'
theorem wrapO_fails {s : Int} {ti sq li fr to : Nat} {xs : List UInt8} {nw : Bool} {w w' : World} {z : Int} (h : wrapF s ti sq li fr to xs = z) (hz : z ≠ 0) (k : KpN w w') :
    WrapO s ti sq li fr to xs nw w (.returned (.tuple #[.agg #[.int .u64 0, .int .u64 0, .int .u64 0, .int .u64 0, .int .u64 0, .int .u64 0, .int .u64 0, .int .u64 0, .int .u64 0, .int .u64 0, .slice none 0 0, .slice none 0 0], .int .i64 z])) w' := by
  have hb : wrapB s ti sq li fr to xs nw = noBdl := by unfold wrapB; rw [h, if_neg hz]
  unfold WrapO
  rw [hb, h]
  exact ⟨.slice none 0 0, .slice none 0 0, [], rfl, OwBd.none _ _ _, k⟩
theorem two_own {W : World} {g : Nat} {F : Nat → Prop} {u u' : Value} (hr : OwC W 37 4 F (.slice (some ⟨g, 0, none⟩) 2 2) 2 [n64 10, n64 2, n64 0, u, n64 7, n64 3, n64 0, u']) (hu : OwB W 5 F u [8, 0]) (hu' : OwB W 5 F u' [0]) (ha : ∀ k, u.ownBlock = some k → u'.ownBlock ≠ some k) :
    OwBl W 37 F (.slice (some ⟨g, 0, none⟩) 2 2) [(u, ⟨10, 2, 0, [8, 0]⟩), (u', ⟨7, 3, 0, [0]⟩)] := by
  refine ⟨hr, fun p hp => ?_, fun p hp => ?_, ?_⟩
  · simp only [List.mem_cons, List.not_mem_nil, or_false] at hp
    rcases hp with rfl | rfl
    · exact hu
    · exact hu'
  · simp only [List.mem_cons, List.not_mem_nil, or_false] at hp
    rcases hp with rfl | rfl
    · unfold U64; dsimp only; omega
    · unfold U64; dsimp only; omega
  · simp only [List.pairwise_cons, List.mem_cons, List.not_mem_nil, or_false, List.Pairwise.nil, and_true]
    exact ⟨fun q hq => by subst hq; exact ha, fun q hq => hq.elim⟩
set_option maxHeartbeats 12800000 in
theorem wrapO_c {w : World} {s : Int} {ti sq li fr to : Nat} {v : Value} {xs : List UInt8} {nw : Bool} (h : RdB w v xs) (hl : xs.length ≤ 100000000) (h1 : U64 ti) (h2 : U64 sq) (h3 : U64 li) (h4 : U64 fr) (h5 : U64 to) :
    Calls Try.prog 19 #[frV s ti sq li v, n64 fr, n64 to, .bool nw] w (WrapO s ti sq li fr to xs nw w) := by
  obtain ⟨A, c, rfl, -⟩ := h.form
  obtain ⟨L, hL⟩ : ∃ L, xs.length = L := ⟨_, rfl⟩
  have HH := Lib.hid h
  rw [hL]
  have kb : KpN w ((w.alloc (.cells #[.int .i64 s, n64 ti, n64 sq, n64 li, .slice A L c] 47)).alloc (.cells #[.int .u64 0, .int .u64 0, .int .u64 0, .int .u64 0, .int .u64 0, .int .u64 0, .int .u64 0, .int .u64 0, .int .u64 0, .int .u64 0, .slice none 0 0, .slice none 0 0] 34)) := ((Kp.refl _ w).alloc _).alloc _
  have hz1 : ((w.alloc (.cells #[.int .i64 s, n64 ti, n64 sq, n64 li, .slice A L c] 47)).alloc (.cells #[.int .u64 0, .int .u64 0, .int .u64 0, .int .u64 0, .int .u64 0, .int .u64 0, .int .u64 0, .int .u64 0, .int .u64 0, .int .u64 0, .slice none 0 0, .slice none 0 0] 34)).heap.size = w.heap.size + 2 := by simp
  have hbox : CellsAt ((w.alloc (.cells #[.int .i64 s, n64 ti, n64 sq, n64 li, .slice A L c] 47)).alloc (.cells #[.int .u64 0, .int .u64 0, .int .u64 0, .int .u64 0, .int .u64 0, .int .u64 0, .int .u64 0, .int .u64 0, .int .u64 0, .int .u64 0, .slice none 0 0, .slice none 0 0] 34)) w.heap.size [.int .i64 s, n64 ti, n64 sq, n64 li, .slice A L c] := (CellsAt.new w [.int .i64 s, n64 ti, n64 sq, n64 li, .slice A L c] _).keep (by simp) ((Kp.refl (fun _ => False) _).alloc _) (fun x => x)
  have hres : CellsAt ((w.alloc (.cells #[.int .i64 s, n64 ti, n64 sq, n64 li, .slice A L c] 47)).alloc (.cells #[.int .u64 0, .int .u64 0, .int .u64 0, .int .u64 0, .int .u64 0, .int .u64 0, .int .u64 0, .int .u64 0, .int .u64 0, .int .u64 0, .slice none 0 0, .slice none 0 0] 34)) (w.heap.size + 1) [.int .u64 0, .int .u64 0, .int .u64 0, .int .u64 0, .int .u64 0, .int .u64 0, .int .u64 0, .int .u64 0, .int .u64 0, .int .u64 0, .slice none 0 0, .slice none 0 0] := by
    have := CellsAt.new (w.alloc (.cells #[.int .i64 s, n64 ti, n64 sq, n64 li, .slice A L c] 47)) [.int .u64 0, .int .u64 0, .int .u64 0, .int .u64 0, .int .u64 0, .int .u64 0, .int .u64 0, .int .u64 0, .int .u64 0, .int .u64 0, .slice none 0 0, .slice none 0 0] 34
    rwa [show (w.alloc (.cells #[.int .i64 s, n64 ti, n64 sq, n64 li, .slice A L c] 47)).heap.size = w.heap.size + 1 by simp] at this
  obtain ⟨w2, hw1⟩ : ∃ w1, ((w.alloc (.cells #[.int .i64 s, n64 ti, n64 sq, n64 li, .slice A L c] 47)).alloc (.cells #[.int .u64 0, .int .u64 0, .int .u64 0, .int .u64 0, .int .u64 0, .int .u64 0, .int .u64 0, .int .u64 0, .int .u64 0, .int .u64 0, .slice none 0 0, .slice none 0 0] 34)) = w1 := ⟨_, rfl⟩
  rw [hw1] at kb hz1 hbox hres
  have k2 : KpN w2 w2 := Kp.refl _ _
  have HW1 := Lib.hid hw1
  have HZ := Lib.hid hz1
  have HU := Lib.hid (And.intro h1 (And.intro h2 (And.intro h3 (And.intro h4 h5))))
  have HLL := Lib.hid (And.intro hL hl)
  clear hw1 h hz1 h1 h2 h3 h4 h5 hL hl
  have krs := hres
  have kbx := hbox
  clear hres hbox
  have b0 : w2.cell? ⟨w.heap.size, 0, none⟩ = some (.int .i64 s) := kbx.at_ 0 rfl
  have b1 : w2.cell? ⟨w.heap.size, 1, none⟩ = some (n64 ti) := kbx.at_ 1 rfl
  have b2 : w2.cell? ⟨w.heap.size, 2, none⟩ = some (n64 sq) := kbx.at_ 2 rfl
  have b3 : w2.cell? ⟨w.heap.size, 3, none⟩ = some (n64 li) := kbx.at_ 3 rfl
  have b4 : w2.cell? ⟨w.heap.size, 4, none⟩ = some (.slice A L c) := kbx.at_ 4 rfl
  obtain ⟨mx, hmx⟩ : ∃ mx, max (max (max (max (ti : Int) sq) li) fr) to = mx := ⟨_, rfl⟩
  have hmf : fitsW s ti sq li = true ∧ fr ≤ maxN ∧ to ≤ maxN ↔ (0 ≤ s ∧ s < 8) ∧ mx ≤ 281474976710655 := by
    simp only [fitsW, maxN, Bool.and_eq_true, decide_eq_true_eq]; omega
  have HMX := Lib.hid (And.intro hmx hmf)
  clear hmx hmf
  go_enter Try.func19, Try.ntmps19
  by_cases hs0 : s < 0
  · have hz : wrapF s ti sq li fr to xs = 1 := by unfold wrapF; rw [if_neg (by rw [HMX.out.2]; omega)]
    have k7 := Kp.setCells (w.heap.size + 1) [.int .u64 0, .int .u64 0, .int .u64 0, .int .u64 0, .int .u64 0, .int .u64 0, .int .u64 0, .int .u64 0, .int .u64 0, .int .u64 0, .slice none 0 0, .slice none 0 0] 0 w2
    have gr7 := krs.put (ds := [.int .u64 0, .int .u64 0, .int .u64 0, .int .u64 0, .int .u64 0, .int .u64 0, .int .u64 0, .int .u64 0, .int .u64 0, .int .u64 0, .slice none 0 0, .slice none 0 0]) rfl
    have hst := run_storeAt_mid (P := Try.prog) w2 (w.heap.size + 1) 0 34 #[.int .u64 0, .int .u64 0, .int .u64 0, .int .u64 0, .int .u64 0, .int .u64 0, .int .u64 0, .int .u64 0, .int .u64 0, .int .u64 0, .slice none 0 0, .slice none 0 0] (krs.there _ (Nat.le_refl _)) (by kernel_rfl) (by kernel_rfl)
    have hfin := wrapO_fails (nw := nw) (w := w) hz (by decide) ((kb.thenN k2).fresh k7 (fun i e => by have := HZ.out; omega))
    have HF := Lib.hid hfin
    have HL := Lib.hid (And.intro hst gr7)
    clear hfin hst gr7 k7 krs kbx hz
    go_wp2_with (first | ((with_reducible show wpList _ _ _ (Oper.mk _ (Op.store 34 _ _) _ _ _ _ :: _) _ _); refine wpl_skip rfl (run_store_op HL.out.1 rfl rfl) ?_) | ((with_reducible show wpList _ _ _ (Oper.mk _ (Op.call _) _ _ _ _ :: _) _ _); refine wpl_valg (by kernel_rfl) (run_max5_op HMX.out.1 rfl rfl rfl rfl rfl) ?_) | ((with_reducible show wpList _ _ _ _ _ (World.alloc _ _)); rw [HW1.out]))
    (try simp only [Exit.inBlock, Exit.then])
    refine bodyPost_ret (results_cell_tmp_at rfl _ _ rfl HL.out.2.1 Try.underlying34 rfl (by kernel_rfl)) rfl ?_
    exact HF.out
  · by_cases hs8 : 8 ≤ s
    · have hz : wrapF s ti sq li fr to xs = 1 := by unfold wrapF; rw [if_neg (by rw [HMX.out.2]; omega)]
      have k7 := Kp.setCells (w.heap.size + 1) [.int .u64 0, .int .u64 0, .int .u64 0, .int .u64 0, .int .u64 0, .int .u64 0, .int .u64 0, .int .u64 0, .int .u64 0, .int .u64 0, .slice none 0 0, .slice none 0 0] 0 w2
      have gr7 := krs.put (ds := [.int .u64 0, .int .u64 0, .int .u64 0, .int .u64 0, .int .u64 0, .int .u64 0, .int .u64 0, .int .u64 0, .int .u64 0, .int .u64 0, .slice none 0 0, .slice none 0 0]) rfl
      have hst := run_storeAt_mid (P := Try.prog) w2 (w.heap.size + 1) 0 34 #[.int .u64 0, .int .u64 0, .int .u64 0, .int .u64 0, .int .u64 0, .int .u64 0, .int .u64 0, .int .u64 0, .int .u64 0, .int .u64 0, .slice none 0 0, .slice none 0 0] (krs.there _ (Nat.le_refl _)) (by kernel_rfl) (by kernel_rfl)
      have hfin := wrapO_fails (nw := nw) (w := w) hz (by decide) ((kb.thenN k2).fresh k7 (fun i e => by have := HZ.out; omega))
      have HF := Lib.hid hfin
      have HL := Lib.hid (And.intro hst gr7)
      clear hfin hst gr7 k7 krs kbx hz
      go_wp2_with (first | ((with_reducible show wpList _ _ _ (Oper.mk _ (Op.store 34 _ _) _ _ _ _ :: _) _ _); refine wpl_skip rfl (run_store_op HL.out.1 rfl rfl) ?_) | ((with_reducible show wpList _ _ _ (Oper.mk _ (Op.call _) _ _ _ _ :: _) _ _); refine wpl_valg (by kernel_rfl) (run_max5_op HMX.out.1 rfl rfl rfl rfl rfl) ?_) | ((with_reducible show wpList _ _ _ _ _ (World.alloc _ _)); rw [HW1.out]))
      (try simp only [Exit.inBlock, Exit.then])
      refine bodyPost_ret (results_cell_tmp_at rfl _ _ rfl HL.out.2.1 Try.underlying34 rfl (by kernel_rfl)) rfl ?_
      exact HF.out
    · by_cases hmm : (281474976710655 : Int) < mx
      · have hz : wrapF s ti sq li fr to xs = 1 := by unfold wrapF; rw [if_neg (by rw [HMX.out.2]; omega)]
        have k7 := Kp.setCells (w.heap.size + 1) [.int .u64 0, .int .u64 0, .int .u64 0, .int .u64 0, .int .u64 0, .int .u64 0, .int .u64 0, .int .u64 0, .int .u64 0, .int .u64 0, .slice none 0 0, .slice none 0 0] 0 w2
        have gr7 := krs.put (ds := [.int .u64 0, .int .u64 0, .int .u64 0, .int .u64 0, .int .u64 0, .int .u64 0, .int .u64 0, .int .u64 0, .int .u64 0, .int .u64 0, .slice none 0 0, .slice none 0 0]) rfl
        have hst := run_storeAt_mid (P := Try.prog) w2 (w.heap.size + 1) 0 34 #[.int .u64 0, .int .u64 0, .int .u64 0, .int .u64 0, .int .u64 0, .int .u64 0, .int .u64 0, .int .u64 0, .int .u64 0, .int .u64 0, .slice none 0 0, .slice none 0 0] (krs.there _ (Nat.le_refl _)) (by kernel_rfl) (by kernel_rfl)
        have hfin := wrapO_fails (nw := nw) (w := w) hz (by decide) ((kb.thenN k2).fresh k7 (fun i e => by have := HZ.out; omega))
        have HF := Lib.hid hfin
        have HL := Lib.hid (And.intro hst gr7)
        clear hfin hst gr7 k7 krs kbx hz
        go_wp2_with (first | ((with_reducible show wpList _ _ _ (Oper.mk _ (Op.store 34 _ _) _ _ _ _ :: _) _ _); refine wpl_skip rfl (run_store_op HL.out.1 rfl rfl) ?_) | ((with_reducible show wpList _ _ _ (Oper.mk _ (Op.call _) _ _ _ _ :: _) _ _); refine wpl_valg (by kernel_rfl) (run_max5_op HMX.out.1 rfl rfl rfl rfl rfl) ?_) | ((with_reducible show wpList _ _ _ _ _ (World.alloc _ _)); rw [HW1.out]))
        (try simp only [Exit.inBlock, Exit.then])
        refine bodyPost_ret (results_cell_tmp_at rfl _ _ rfl HL.out.2.1 Try.underlying34 rfl (by kernel_rfl)) rfl ?_
        exact HF.out
      · by_cases hle : (512 : Int) < (L : Int)
        · have hz : wrapF s ti sq li fr to xs = 81 := by unfold wrapF; rw [if_pos (HMX.out.2.2 (by omega)), if_pos (by rw [HLL.out.1]; omega)]
          have k7 := Kp.setCells (w.heap.size + 1) [.int .u64 0, .int .u64 0, .int .u64 0, .int .u64 0, .int .u64 0, .int .u64 0, .int .u64 0, .int .u64 0, .int .u64 0, .int .u64 0, .slice none 0 0, .slice none 0 0] 0 w2
          have gr7 := krs.put (ds := [.int .u64 0, .int .u64 0, .int .u64 0, .int .u64 0, .int .u64 0, .int .u64 0, .int .u64 0, .int .u64 0, .int .u64 0, .int .u64 0, .slice none 0 0, .slice none 0 0]) rfl
          have hst := run_storeAt_mid (P := Try.prog) w2 (w.heap.size + 1) 0 34 #[.int .u64 0, .int .u64 0, .int .u64 0, .int .u64 0, .int .u64 0, .int .u64 0, .int .u64 0, .int .u64 0, .int .u64 0, .int .u64 0, .slice none 0 0, .slice none 0 0] (krs.there _ (Nat.le_refl _)) (by kernel_rfl) (by kernel_rfl)
          have hfin := wrapO_fails (nw := nw) (w := w) hz (by decide) ((kb.thenN k2).fresh k7 (fun i e => by have := HZ.out; omega))
          have HF := Lib.hid hfin
          have HL := Lib.hid (And.intro hst gr7)
          clear hfin hst gr7 k7 krs kbx hz
          go_wp2_with (first | ((with_reducible show wpList _ _ _ (Oper.mk _ (Op.store 34 _ _) _ _ _ _ :: _) _ _); refine wpl_skip rfl (run_store_op HL.out.1 rfl rfl) ?_) | ((with_reducible show wpList _ _ _ (Oper.mk _ (Op.call _) _ _ _ _ :: _) _ _); refine wpl_valg (by kernel_rfl) (run_max5_op HMX.out.1 rfl rfl rfl rfl rfl) ?_) | ((with_reducible show wpList _ _ _ _ _ (World.alloc _ _)); rw [HW1.out]))
          (try simp only [Exit.inBlock, Exit.then])
          refine bodyPost_ret (results_cell_tmp_at rfl _ _ rfl HL.out.2.1 Try.underlying34 rfl (by kernel_rfl)) rfl ?_
          exact HF.out
        · obtain ⟨m, rfl⟩ := Int.eq_ofNat_of_zero_le (show 0 ≤ s by omega)
          have hwf : wrapF (m : Int) ti sq li fr to xs = 0 := by unfold wrapF; rw [if_pos (HMX.out.2.2 (by omega)), if_neg (by rw [HLL.out.1]; omega)]
          have hmU : U64 m := by unfold U64; omega
          have hrow : RowAt w2 ⟨w.heap.size, 1, none⟩ [n64 ti, n64 sq] := fun j v hj => by
            rw [Addr.add_mid]
            match j, hj with
            | 0, hj => (rw [← Option.some.inj hj]; exact kbx.at_ 1 rfl)
            | 1, hj => (rw [← Option.some.inj hj]; exact kbx.at_ 2 rfl)
          have hl2 := run_loadAt_rowat (P := Try.prog) hrow Try.underlying25 rfl (by kernel_rfl)
          clear hrow
          cases nw
          · have hca := CellsAt.new w2 [.int .u64 0, .int .u64 0, .int .u64 0, .int .u64 0, .int .u64 0, .int .u64 0, .int .u64 0, .int .u64 0, .int .u64 0, .int .u64 0, .slice none 0 0, .slice none 0 0] 34
            have ka : KpN w2 (w2.alloc (.cells #[.int .u64 0, .int .u64 0, .int .u64 0, .int .u64 0, .int .u64 0, .int .u64 0, .int .u64 0, .int .u64 0, .int .u64 0, .int .u64 0, .slice none 0 0, .slice none 0 0] 34)) := (Kp.refl _ _).alloc _
            have hza : (w2.alloc (.cells #[.int .u64 0, .int .u64 0, .int .u64 0, .int .u64 0, .int .u64 0, .int .u64 0, .int .u64 0, .int .u64 0, .int .u64 0, .int .u64 0, .slice none 0 0, .slice none 0 0] 34)).heap.size = w2.heap.size + 1 := by simp
            have kc := Kp.setCells w2.heap.size [.int .u64 5, n64 to, n64 m, n64 fr, n64 m, n64 fr, .int .u64 0, n64 ti, n64 sq, n64 li, .slice none 0 0, .slice none 0 0] 0 (w2.alloc (.cells #[.int .u64 0, .int .u64 0, .int .u64 0, .int .u64 0, .int .u64 0, .int .u64 0, .int .u64 0, .int .u64 0, .int .u64 0, .int .u64 0, .slice none 0 0, .slice none 0 0] 34))
            have hst3 := run_storeAt_mid (P := Try.prog) (w2.alloc (.cells #[.int .u64 0, .int .u64 0, .int .u64 0, .int .u64 0, .int .u64 0, .int .u64 0, .int .u64 0, .int .u64 0, .int .u64 0, .int .u64 0, .slice none 0 0, .slice none 0 0] 34)) w2.heap.size 0 34 #[.int .u64 5, n64 to, n64 m, n64 fr, n64 m, n64 fr, .int .u64 0, n64 ti, n64 sq, n64 li, .slice none 0 0, .slice none 0 0] (hca.there _ (Nat.le_refl _)) (by kernel_rfl) (by kernel_rfl)
            have hc3 := hca.put (ds := [.int .u64 5, n64 to, n64 m, n64 fr, n64 m, n64 fr, .int .u64 0, n64 ti, n64 sq, n64 li, .slice none 0 0, .slice none 0 0]) rfl
            have k23 : KpN w2 ((w2.alloc (.cells #[.int .u64 0, .int .u64 0, .int .u64 0, .int .u64 0, .int .u64 0, .int .u64 0, .int .u64 0, .int .u64 0, .int .u64 0, .int .u64 0, .slice none 0 0, .slice none 0 0] 34)).setCells w2.heap.size 0 [.int .u64 5, n64 to, n64 m, n64 fr, n64 m, n64 fr, .int .u64 0, n64 ti, n64 sq, n64 li, .slice none 0 0, .slice none 0 0]) := ka.fresh kc (fun i e => by omega)
            have hz3 : w2.heap.size < ((w2.alloc (.cells #[.int .u64 0, .int .u64 0, .int .u64 0, .int .u64 0, .int .u64 0, .int .u64 0, .int .u64 0, .int .u64 0, .int .u64 0, .int .u64 0, .slice none 0 0, .slice none 0 0] 34)).setCells w2.heap.size 0 [.int .u64 5, n64 to, n64 m, n64 fr, n64 m, n64 fr, .int .u64 0, n64 ti, n64 sq, n64 li, .slice none 0 0, .slice none 0 0]).heap.size := by have := kc.size; omega
            clear ka hza kc hca
            obtain ⟨w3, hw3⟩ : ∃ w3, ((w2.alloc (.cells #[.int .u64 0, .int .u64 0, .int .u64 0, .int .u64 0, .int .u64 0, .int .u64 0, .int .u64 0, .int .u64 0, .int .u64 0, .int .u64 0, .slice none 0 0, .slice none 0 0] 34)).setCells w2.heap.size 0 [.int .u64 5, n64 to, n64 m, n64 fr, n64 m, n64 fr, .int .u64 0, n64 ti, n64 sq, n64 li, .slice none 0 0, .slice none 0 0]) = w3 := ⟨_, rfl⟩
            rw [hw3] at hc3 k23 hz3
            have hc4 : CellsAt w3 w2.heap.size [.int .u64 5, n64 to, n64 m, n64 fr, n64 m, n64 fr, .int .u64 0, n64 ti, n64 sq, n64 li, .slice none 0 0, .slice none 0 0] := hc3
            have k34 : Kp (fun x => x = w2.heap.size) w3 w3 := Kp.refl _ _
            have z4 : w3.heap.size = w3.heap.size := by simp
            have k24 : KpN w2 w3 := k23.fresh k34 (fun i e => by omega)
            have c30 : w3.cell? ⟨w2.heap.size, 0, none⟩ = some (.int .u64 5) := hc3.at_ 0 rfl
            have f30 : w3.frozen? ⟨w2.heap.size, 0, none⟩ = false := hc3.2 0
            have hz4 : w2.heap.size < w3.heap.size := by omega
            obtain ⟨w4, hw4⟩ : ∃ w4, w3 = w4 := ⟨_, rfl⟩
            rw [hw4] at hc4 hz4 k24
            have HA := Lib.hid (And.intro hst3 (And.intro hw3 (And.intro hw4 hl2)))
            have HB := Lib.hid (And.intro hc4 (And.intro k24 (And.intro krs kbx)))
            clear hst3 hw3 hw4 hl2 hc4 k24 krs kbx k23 k34 hc3
            go_wp2_with (first
              | ((with_reducible show wpList _ _ _ (Oper.mk _ (Op.call _) _ _ _ _ :: _) _ _); refine wpl_valg (by kernel_rfl) (run_max5_op HMX.out.1 rfl rfl rfl rfl rfl) ?_)
              | ((with_reducible show wpList _ _ _ (Oper.mk _ (Op.load 25 _) _ _ _ _ :: _) _ _); refine wpl_val rfl (run_load_opv HA.out.2.2.2 rfl) ?_)
              | ((with_reducible show wpList _ _ _ (Oper.mk _ (Op.build 31 _) _ _ _ _ :: _) _ _); refine wpl_val rfl (run_buildE rfl rfl) ?_)
              | ((with_reducible show wpList _ _ _ (Oper.mk _ (Op.build 34 _) _ _ _ _ :: _) _ _); refine wpl_val rfl (run_buildBd5 rfl rfl rfl rfl rfl rfl) ?_)
              | ((with_reducible show wpList _ _ _ (Oper.mk _ (Op.store 34 _ _) _ _ _ _ :: _) _ _); refine wpl_skip rfl (run_store_op HA.out.1 rfl rfl) ?_; rw [HA.out.2.1])
              | ((with_reducible show wpList _ _ _ _ _ (World.alloc _ _)); rw [HW1.out]))
            (try rw [show bits BinOp.or IntKind.u64 5 2 = 7 from by decide +kernel])
            rw [HA.out.2.2.1]
            refine (hlaid_c w4 8 0 (by unfold U64; decide) (by unfold U64; decide)).mono ?_
            rintro e w5 ⟨u5, rfl, o5, k5⟩
            rw [show sd 8 ++ sd 0 = [8, 0] by first | decide +kernel | simp [sd]] at o5
            obtain ⟨A5, c5, rfl, -⟩ : ∃ A5 c5, u5 = .slice A5 2 c5 ∧ True := by obtain ⟨A5, c5, h, -⟩ := o5.readsB.form; exact ⟨A5, c5, h, trivial⟩
            have hz5 := k5.size
            have HO5 := Lib.hid o5
            clear o5
            go_wp2_with (first
              | ((with_reducible show wpList _ _ _ (Oper.mk _ (Op.build 37 _) _ _ _ _ :: _) _ _); refine wpl_val rfl (run_buildBB rfl rfl rfl) ?_))
            refine (number_c (n := 0) (RdB.nil w5) (by omega) (by simp)).mono ?_
            rintro e w6 ⟨u6, rfl, o6, k6⟩
            rw [show [] ++ sd 0 = [0] by first | decide +kernel | simp [sd]] at o6
            obtain ⟨A6, c6, rfl, -⟩ : ∃ A6 c6, u6 = .slice A6 1 c6 ∧ True := by obtain ⟨A6, c6, h, -⟩ := o6.readsB.form; exact ⟨A6, c6, h, trivial⟩
            have hz6 := k6.size
            have o5 := HO5.out
            obtain ⟨hc4, k24, krs, kbx⟩ := HB.out
            have hb7 := CellsAt.new w6 [.int .u64 10, .int .u64 2, .int .u64 0, .slice A5 2 c5, .int .u64 7, .int .u64 3, .int .u64 0, .slice A6 1 c6] 37
            have ob7 := OwC.lit w6 37 4 2 #[.int .u64 10, .int .u64 2, .int .u64 0, .slice A5 2 c5, .int .u64 7, .int .u64 3, .int .u64 0, .slice A6 1 c6] (by simp [maxLen]) rfl
            have k67 : KpN w6 (w6.alloc (.cells #[.int .u64 10, .int .u64 2, .int .u64 0, .slice A5 2 c5, .int .u64 7, .int .u64 3, .int .u64 0, .slice A6 1 c6] 37)) := (Kp.refl _ _).alloc _
            have z7 : (w6.alloc (.cells #[.int .u64 10, .int .u64 2, .int .u64 0, .slice A5 2 c5, .int .u64 7, .int .u64 3, .int .u64 0, .slice A6 1 c6] 37)).heap.size = w6.heap.size + 1 := by simp
            obtain ⟨w7, hw7⟩ : ∃ w7, (w6.alloc (.cells #[.int .u64 10, .int .u64 2, .int .u64 0, .slice A5 2 c5, .int .u64 7, .int .u64 3, .int .u64 0, .slice A6 1 c6] 37)) = w7 := ⟨_, rfl⟩
            rw [show (w6.alloc (.cells ([.int .u64 10, .int .u64 2, .int .u64 0, .slice A5 2 c5, .int .u64 7, .int .u64 3, .int .u64 0, .slice A6 1 c6] : List Value).toArray 37)) = w7 from hw7] at hb7
            rw [hw7] at k67 z7
            rw [hw7] at ob7
            have k47 := (k5.thenN k6).thenN k67
            have hc7 : CellsAt w7 w2.heap.size [.int .u64 5, n64 to, n64 m, n64 fr, n64 m, n64 fr, .int .u64 0, n64 ti, n64 sq, n64 li, .slice none 0 0, .slice none 0 0] := hc4.keep (by omega) k47 (fun x => x)
            have c710 : w7.cell? ⟨w2.heap.size, 10, none⟩ = some (.slice none 0 0) := hc7.at_ 10 rfl
            have f710 : w7.frozen? ⟨w2.heap.size, 10, none⟩ = false := hc7.2 10
            have hc8 : CellsAt (w7.setCell ⟨w2.heap.size, 10, none⟩ (.slice (some ⟨w6.heap.size, 0, none⟩) 2 2)) w2.heap.size [.int .u64 5, n64 to, n64 m, n64 fr, n64 m, n64 fr, .int .u64 0, n64 ti, n64 sq, n64 li, .slice (some ⟨w6.heap.size, 0, none⟩) 2 2, .slice none 0 0] := hc7.set 10 (.slice (some ⟨w6.heap.size, 0, none⟩) 2 2) (by simp)
            have k78 : Kp (fun x => x = w2.heap.size) w7 (w7.setCell ⟨w2.heap.size, 10, none⟩ (.slice (some ⟨w6.heap.size, 0, none⟩) 2 2)) := kp1_set3 _ _ _
            have k28 : KpN w2 (w7.setCell ⟨w2.heap.size, 10, none⟩ (.slice (some ⟨w6.heap.size, 0, none⟩) 2 2)) := (k24.thenN k47).fresh k78 (fun i e => by omega)
            have hd8 : (w7.setCell ⟨w2.heap.size, 10, none⟩ (.slice (some ⟨w6.heap.size, 0, none⟩) 2 2)).cell? ⟨w.heap.size, 4, none⟩ = some (.slice A L c) := (kbx.keep (by have := HZ.out; omega) k28 (fun x => x)).at_ 4 rfl
            have hpl := HH.out.keepN (kb.thenN k28)
            obtain ⟨v9, w9, r9, o9, k9⟩ := run_appB_nil (P := Try.prog) (ty := 27) (w7.setCell ⟨w2.heap.size, 10, none⟩ (.slice (some ⟨w6.heap.size, 0, none⟩) 2 2)) Try.underlying27 u8info hpl (by have := HLL.out.2; omega)
            obtain ⟨A9, c9, rfl, -⟩ := o9.readsB.form
            rw [HLL.out.1] at r9 o9
            have hz8 := k78.size
            have hz9 := k9.size
            have hc9 := hc8.keep (by omega) k9 (fun x => x)
            have c911 : w9.cell? ⟨w2.heap.size, 11, none⟩ = some (.slice none 0 0) := hc9.at_ 11 rfl
            have f911 : w9.frozen? ⟨w2.heap.size, 11, none⟩ = false := hc9.2 11
            have hc10 : CellsAt (w9.setCell ⟨w2.heap.size, 11, none⟩ (.slice A9 L c9)) w2.heap.size [.int .u64 5, n64 to, n64 m, n64 fr, n64 m, n64 fr, .int .u64 0, n64 ti, n64 sq, n64 li, .slice (some ⟨w6.heap.size, 0, none⟩) 2 2, .slice A9 L c9] := hc9.set 11 (.slice A9 L c9) (by simp)
            have hl10 := run_loadAt_rowat (P := Try.prog) hc10.1 Try.underlying34 rfl (by kernel_rfl)
            have k910 : Kp (fun x => x = w2.heap.size) w9 (w9.setCell ⟨w2.heap.size, 11, none⟩ (.slice A9 L c9)) := kp1_set3 _ _ _
            have k210 : KpN w2 (w9.setCell ⟨w2.heap.size, 11, none⟩ (.slice A9 L c9)) := (k28.thenN k9).fresh k910 (fun i e => by omega)
            have hr10 : CellsAt (w9.setCell ⟨w2.heap.size, 11, none⟩ (.slice A9 L c9)) (w.heap.size + 1) [.int .u64 0, .int .u64 0, .int .u64 0, .int .u64 0, .int .u64 0, .int .u64 0, .int .u64 0, .int .u64 0, .int .u64 0, .int .u64 0, .slice none 0 0, .slice none 0 0] := krs.keep (by have := HZ.out; omega) k210 (fun x => x)
            have hst11 := run_storeAt_mid (P := Try.prog) (w9.setCell ⟨w2.heap.size, 11, none⟩ (.slice A9 L c9)) (w.heap.size + 1) 0 34 #[.int .u64 5, n64 to, n64 m, n64 fr, n64 m, n64 fr, .int .u64 0, n64 ti, n64 sq, n64 li, .slice (some ⟨w6.heap.size, 0, none⟩) 2 2, .slice A9 L c9] (hr10.there _ (Nat.le_refl _)) (by kernel_rfl) (by kernel_rfl)
            have hr11 := hr10.put (ds := [.int .u64 5, n64 to, n64 m, n64 fr, n64 m, n64 fr, .int .u64 0, n64 ti, n64 sq, n64 li, .slice (some ⟨w6.heap.size, 0, none⟩) 2 2, .slice A9 L c9]) rfl
            have k1011 := Kp.setCells (w.heap.size + 1) [.int .u64 5, n64 to, n64 m, n64 fr, n64 m, n64 fr, .int .u64 0, n64 ti, n64 sq, n64 li, .slice (some ⟨w6.heap.size, 0, none⟩) 2 2, .slice A9 L c9] 0 (w9.setCell ⟨w2.heap.size, 11, none⟩ (.slice A9 L c9))
            have k011 : KpN w ((w9.setCell ⟨w2.heap.size, 11, none⟩ (.slice A9 L c9)).setCells (w.heap.size + 1) 0 [.int .u64 5, n64 to, n64 m, n64 fr, n64 m, n64 fr, .int .u64 0, n64 ti, n64 sq, n64 li, .slice (some ⟨w6.heap.size, 0, none⟩) 2 2, .slice A9 L c9]) := (kb.thenN k210).fresh k1011 (fun i e => by omega)
            have k911 : Kp (fun x => x = w2.heap.size ∨ x = w.heap.size + 1) w9 ((w9.setCell ⟨w2.heap.size, 11, none⟩ (.slice A9 L c9)).setCells (w.heap.size + 1) 0 [.int .u64 5, n64 to, n64 m, n64 fr, n64 m, n64 fr, .int .u64 0, n64 ti, n64 sq, n64 li, .slice (some ⟨w6.heap.size, 0, none⟩) 2 2, .slice A9 L c9]) := (k910.mono (fun i _ e => .inl e)).trans k1011 (fun i _ e => e) (fun i _ e => .inr e)
            have k711 : Kp (fun x => x = w2.heap.size ∨ x = w.heap.size + 1) w7 ((w9.setCell ⟨w2.heap.size, 11, none⟩ (.slice A9 L c9)).setCells (w.heap.size + 1) 0 [.int .u64 5, n64 to, n64 m, n64 fr, n64 m, n64 fr, .int .u64 0, n64 ti, n64 sq, n64 li, .slice (some ⟨w6.heap.size, 0, none⟩) 2 2, .slice A9 L c9]) := ((k78.mono (fun i _ e => .inl e)).trans k9 (fun i _ e => e) (fun i _ e => e.elim)).trans k911 (fun i _ e => e) (fun i _ e => e)
            have hlo := HZ.out
            have hbl := two_own (((ob7.keep k711 (fun i hi e => by have := hi.1; omega)).wide (G := Iv w.heap.size ((w9.setCell ⟨w2.heap.size, 11, none⟩ (.slice A9 L c9)).setCells (w.heap.size + 1) 0 [.int .u64 5, n64 to, n64 m, n64 fr, n64 m, n64 fr, .int .u64 0, n64 ti, n64 sq, n64 li, .slice (some ⟨w6.heap.size, 0, none⟩) 2 2, .slice A9 L c9]).heap.size) (fun i hk hi => ⟨by have := hi.1; omega, hk⟩))) (((OwB.keep (xs := [8, 0]) (o5.keepN (k6.thenN k67)) k711 (fun i hi e => by have := hi.1; omega)).wide (G := Iv w.heap.size ((w9.setCell ⟨w2.heap.size, 11, none⟩ (.slice A9 L c9)).setCells (w.heap.size + 1) 0 [.int .u64 5, n64 to, n64 m, n64 fr, n64 m, n64 fr, .int .u64 0, n64 ti, n64 sq, n64 li, .slice (some ⟨w6.heap.size, 0, none⟩) 2 2, .slice A9 L c9]).heap.size) (fun i hk hi => ⟨by have := hi.1; omega, hk⟩))) (((OwB.keep (xs := [0]) (o6.keepN k67) k711 (fun i hi e => by have := hi.1; omega)).wide (G := Iv w.heap.size ((w9.setCell ⟨w2.heap.size, 11, none⟩ (.slice A9 L c9)).setCells (w.heap.size + 1) 0 [.int .u64 5, n64 to, n64 m, n64 fr, n64 m, n64 fr, .int .u64 0, n64 ti, n64 sq, n64 li, .slice (some ⟨w6.heap.size, 0, none⟩) 2 2, .slice A9 L c9]).heap.size) (fun i hk hi => ⟨by have := hi.1; omega, hk⟩))) (fun k h1 h2 => by have := (o5.fit k h1).2; have := (o6.fit k h2).1; omega)
            have hp11 := (OwB.keep o9 k911 (fun i hi e => by have := hi.1; have := HZ.out; omega)).wide (G := Iv w.heap.size ((w9.setCell ⟨w2.heap.size, 11, none⟩ (.slice A9 L c9)).setCells (w.heap.size + 1) 0 [.int .u64 5, n64 to, n64 m, n64 fr, n64 m, n64 fr, .int .u64 0, n64 ti, n64 sq, n64 li, .slice (some ⟨w6.heap.size, 0, none⟩) 2 2, .slice A9 L c9]).heap.size) (fun i hk hi => ⟨by have := hi.1; omega, hk⟩)
            have hap : ∀ p ∈ [((.slice A5 2 c5 : Value), (⟨10, 2, 0, [8, 0]⟩ : Blk)), (.slice A6 1 c6, ⟨7, 3, 0, [0]⟩)], ∀ k, p.1.ownBlock = some k → (Value.slice A9 L c9).ownBlock ≠ some k := fun p hp k h1 h2 => by
              have h9 := (o9.fit k h2).1
              simp only [List.mem_cons, List.not_mem_nil, or_false] at hp
              rcases hp with rfl | rfl
              · have := (o5.fit k h1).2; omega
              · have := (o6.fit k h1).2; omega
            have hfin : WrapO (m : Int) ti sq li fr to xs false w (.returned (.tuple #[.agg ([.int .u64 5, n64 to, n64 m, n64 fr, n64 m, n64 fr, .int .u64 0, n64 ti, n64 sq, n64 li, .slice (some ⟨w6.heap.size, 0, none⟩) 2 2, .slice A9 L c9] : List Value).toArray, .int .i64 0])) ((w9.setCell ⟨w2.heap.size, 11, none⟩ (.slice A9 L c9)).setCells (w.heap.size + 1) 0 [.int .u64 5, n64 to, n64 m, n64 fr, n64 m, n64 fr, .int .u64 0, n64 ti, n64 sq, n64 li, .slice (some ⟨w6.heap.size, 0, none⟩) 2 2, .slice A9 L c9]) := by
              unfold WrapO
              rw [hwf, show wrapB (m : Int) ti sq li fr to xs false = wrapD (m : Int) ti sq li fr to xs false by unfold wrapB; rw [if_pos hwf]]
              exact ⟨_, _, _, rfl, ⟨⟨show (5 : Nat) < 18446744073709551616 by decide, HU.out.2.2.2.2, hmU, HU.out.2.2.2.1, hmU, HU.out.2.2.2.1, show (0 : Nat) < 18446744073709551616 by decide, HU.out.1, HU.out.2.1, HU.out.2.2.1⟩, hbl, rfl, hp11, hap⟩, k011⟩
            have HF := Lib.hid hfin
            have HL := Lib.hid (And.intro hl10 (And.intro hst11 (And.intro hr11 hw7)))
            clear hlo hap ob7 hw7 hl10 hst11 hr11 hfin hbl hp11 hpl hb7 hc4 hc7 hc8 hc9 hc10 hr10 o5 o6 o9 k24 krs kbx k67 k47 k78 k28 k9 k910 k210 k1011 k011 k911 k711 z7 hz8 hz9 hz3 hz5 hz6 hz4 k5 k6
            go_wp2_with (first
              | (at_builtin; ((with_reducible show wpList _ _ _ _ _ (w7.setCell ⟨w2.heap.size, 10, none⟩ (.slice (some ⟨w6.heap.size, 0, none⟩) 2 2))); refine app_op r9 rfl rfl ?_))
              | ((with_reducible show wpList _ _ _ (Oper.mk _ (Op.build 37 _) _ _ _ _ :: _) _ _); refine wpl_val rfl (run_buildBB rfl rfl rfl) ?_)
              | ((with_reducible show wpList _ _ _ (Oper.mk _ (Op.buildSlice 32 2 _) _ _ _ _ :: _) _ _); refine wpl_val rfl (run_twoBlk rfl rfl) ?_; rw [HL.out.2.2.2])
              | ((with_reducible show wpList _ _ _ (Oper.mk _ (Op.load 34 _) _ _ _ _ :: _) _ _); refine wpl_val rfl (run_load_opv HL.out.1 rfl) ?_)
              | ((with_reducible show wpList _ _ _ (Oper.mk _ (Op.store 34 _ _) _ _ _ _ :: _) _ _); refine wpl_skip rfl (run_store_op HL.out.2.1 rfl rfl) ?_))
            (try simp only [Exit.inBlock, Exit.then])
            refine bodyPost_ret (results_cell_tmp_at rfl _ _ rfl HL.out.2.2.1.1 Try.underlying34 rfl (by kernel_rfl)) rfl ?_
            exact HF.out
          · have hca := CellsAt.new w2 [.int .u64 0, .int .u64 0, .int .u64 0, .int .u64 0, .int .u64 0, .int .u64 0, .int .u64 0, .int .u64 0, .int .u64 0, .int .u64 0, .slice none 0 0, .slice none 0 0] 34
            have ka : KpN w2 (w2.alloc (.cells #[.int .u64 0, .int .u64 0, .int .u64 0, .int .u64 0, .int .u64 0, .int .u64 0, .int .u64 0, .int .u64 0, .int .u64 0, .int .u64 0, .slice none 0 0, .slice none 0 0] 34)) := (Kp.refl _ _).alloc _
            have hza : (w2.alloc (.cells #[.int .u64 0, .int .u64 0, .int .u64 0, .int .u64 0, .int .u64 0, .int .u64 0, .int .u64 0, .int .u64 0, .int .u64 0, .int .u64 0, .slice none 0 0, .slice none 0 0] 34)).heap.size = w2.heap.size + 1 := by simp
            have kc := Kp.setCells w2.heap.size [.int .u64 5, n64 to, n64 m, n64 fr, n64 m, n64 fr, .int .u64 0, n64 ti, n64 sq, n64 li, .slice none 0 0, .slice none 0 0] 0 (w2.alloc (.cells #[.int .u64 0, .int .u64 0, .int .u64 0, .int .u64 0, .int .u64 0, .int .u64 0, .int .u64 0, .int .u64 0, .int .u64 0, .int .u64 0, .slice none 0 0, .slice none 0 0] 34))
            have hst3 := run_storeAt_mid (P := Try.prog) (w2.alloc (.cells #[.int .u64 0, .int .u64 0, .int .u64 0, .int .u64 0, .int .u64 0, .int .u64 0, .int .u64 0, .int .u64 0, .int .u64 0, .int .u64 0, .slice none 0 0, .slice none 0 0] 34)) w2.heap.size 0 34 #[.int .u64 5, n64 to, n64 m, n64 fr, n64 m, n64 fr, .int .u64 0, n64 ti, n64 sq, n64 li, .slice none 0 0, .slice none 0 0] (hca.there _ (Nat.le_refl _)) (by kernel_rfl) (by kernel_rfl)
            have hc3 := hca.put (ds := [.int .u64 5, n64 to, n64 m, n64 fr, n64 m, n64 fr, .int .u64 0, n64 ti, n64 sq, n64 li, .slice none 0 0, .slice none 0 0]) rfl
            have k23 : KpN w2 ((w2.alloc (.cells #[.int .u64 0, .int .u64 0, .int .u64 0, .int .u64 0, .int .u64 0, .int .u64 0, .int .u64 0, .int .u64 0, .int .u64 0, .int .u64 0, .slice none 0 0, .slice none 0 0] 34)).setCells w2.heap.size 0 [.int .u64 5, n64 to, n64 m, n64 fr, n64 m, n64 fr, .int .u64 0, n64 ti, n64 sq, n64 li, .slice none 0 0, .slice none 0 0]) := ka.fresh kc (fun i e => by omega)
            have hz3 : w2.heap.size < ((w2.alloc (.cells #[.int .u64 0, .int .u64 0, .int .u64 0, .int .u64 0, .int .u64 0, .int .u64 0, .int .u64 0, .int .u64 0, .int .u64 0, .int .u64 0, .slice none 0 0, .slice none 0 0] 34)).setCells w2.heap.size 0 [.int .u64 5, n64 to, n64 m, n64 fr, n64 m, n64 fr, .int .u64 0, n64 ti, n64 sq, n64 li, .slice none 0 0, .slice none 0 0]).heap.size := by have := kc.size; omega
            clear ka hza kc hca
            obtain ⟨w3, hw3⟩ : ∃ w3, ((w2.alloc (.cells #[.int .u64 0, .int .u64 0, .int .u64 0, .int .u64 0, .int .u64 0, .int .u64 0, .int .u64 0, .int .u64 0, .int .u64 0, .int .u64 0, .slice none 0 0, .slice none 0 0] 34)).setCells w2.heap.size 0 [.int .u64 5, n64 to, n64 m, n64 fr, n64 m, n64 fr, .int .u64 0, n64 ti, n64 sq, n64 li, .slice none 0 0, .slice none 0 0]) = w3 := ⟨_, rfl⟩
            rw [hw3] at hc3 k23 hz3
            have hc4 : CellsAt (w3.setCell ⟨w2.heap.size, 0, none⟩ (.int .u64 7)) w2.heap.size [.int .u64 7, n64 to, n64 m, n64 fr, n64 m, n64 fr, .int .u64 0, n64 ti, n64 sq, n64 li, .slice none 0 0, .slice none 0 0] := hc3.set 0 (.int .u64 7) (by simp)
            have k34 : Kp (fun x => x = w2.heap.size) w3 (w3.setCell ⟨w2.heap.size, 0, none⟩ (.int .u64 7)) := kp1_set3 _ _ _
            have z4 : (w3.setCell ⟨w2.heap.size, 0, none⟩ (.int .u64 7)).heap.size = w3.heap.size := by simp
            have k24 : KpN w2 (w3.setCell ⟨w2.heap.size, 0, none⟩ (.int .u64 7)) := k23.fresh k34 (fun i e => by omega)
            have c30 : w3.cell? ⟨w2.heap.size, 0, none⟩ = some (.int .u64 5) := hc3.at_ 0 rfl
            have f30 : w3.frozen? ⟨w2.heap.size, 0, none⟩ = false := hc3.2 0
            have hz4 : w2.heap.size < (w3.setCell ⟨w2.heap.size, 0, none⟩ (.int .u64 7)).heap.size := by omega
            obtain ⟨w4, hw4⟩ : ∃ w4, (w3.setCell ⟨w2.heap.size, 0, none⟩ (.int .u64 7)) = w4 := ⟨_, rfl⟩
            rw [hw4] at hc4 hz4 k24
            have HA := Lib.hid (And.intro hst3 (And.intro hw3 (And.intro hw4 hl2)))
            have HB := Lib.hid (And.intro hc4 (And.intro k24 (And.intro krs kbx)))
            clear hst3 hw3 hw4 hl2 hc4 k24 krs kbx k23 k34 hc3
            go_wp2_with (first
              | ((with_reducible show wpList _ _ _ (Oper.mk _ (Op.call _) _ _ _ _ :: _) _ _); refine wpl_valg (by kernel_rfl) (run_max5_op HMX.out.1 rfl rfl rfl rfl rfl) ?_)
              | ((with_reducible show wpList _ _ _ (Oper.mk _ (Op.load 25 _) _ _ _ _ :: _) _ _); refine wpl_val rfl (run_load_opv HA.out.2.2.2 rfl) ?_)
              | ((with_reducible show wpList _ _ _ (Oper.mk _ (Op.build 31 _) _ _ _ _ :: _) _ _); refine wpl_val rfl (run_buildE rfl rfl) ?_)
              | ((with_reducible show wpList _ _ _ (Oper.mk _ (Op.build 34 _) _ _ _ _ :: _) _ _); refine wpl_val rfl (run_buildBd5 rfl rfl rfl rfl rfl rfl) ?_)
              | ((with_reducible show wpList _ _ _ (Oper.mk _ (Op.store 34 _ _) _ _ _ _ :: _) _ _); refine wpl_skip rfl (run_store_op HA.out.1 rfl rfl) ?_; rw [HA.out.2.1])
              | ((with_reducible show wpList _ _ _ _ _ (World.alloc _ _)); rw [HW1.out]))
            (try rw [show bits BinOp.or IntKind.u64 5 2 = 7 from by decide +kernel])
            rw [HA.out.2.2.1]
            refine (hlaid_c w4 8 0 (by unfold U64; decide) (by unfold U64; decide)).mono ?_
            rintro e w5 ⟨u5, rfl, o5, k5⟩
            rw [show sd 8 ++ sd 0 = [8, 0] by first | decide +kernel | simp [sd]] at o5
            obtain ⟨A5, c5, rfl, -⟩ : ∃ A5 c5, u5 = .slice A5 2 c5 ∧ True := by obtain ⟨A5, c5, h, -⟩ := o5.readsB.form; exact ⟨A5, c5, h, trivial⟩
            have hz5 := k5.size
            have HO5 := Lib.hid o5
            clear o5
            go_wp2_with (first
              | ((with_reducible show wpList _ _ _ (Oper.mk _ (Op.build 37 _) _ _ _ _ :: _) _ _); refine wpl_val rfl (run_buildBB rfl rfl rfl) ?_))
            refine (number_c (n := 0) (RdB.nil w5) (by omega) (by simp)).mono ?_
            rintro e w6 ⟨u6, rfl, o6, k6⟩
            rw [show [] ++ sd 0 = [0] by first | decide +kernel | simp [sd]] at o6
            obtain ⟨A6, c6, rfl, -⟩ : ∃ A6 c6, u6 = .slice A6 1 c6 ∧ True := by obtain ⟨A6, c6, h, -⟩ := o6.readsB.form; exact ⟨A6, c6, h, trivial⟩
            have hz6 := k6.size
            have o5 := HO5.out
            obtain ⟨hc4, k24, krs, kbx⟩ := HB.out
            have hb7 := CellsAt.new w6 [.int .u64 10, .int .u64 2, .int .u64 0, .slice A5 2 c5, .int .u64 7, .int .u64 3, .int .u64 0, .slice A6 1 c6] 37
            have ob7 := OwC.lit w6 37 4 2 #[.int .u64 10, .int .u64 2, .int .u64 0, .slice A5 2 c5, .int .u64 7, .int .u64 3, .int .u64 0, .slice A6 1 c6] (by simp [maxLen]) rfl
            have k67 : KpN w6 (w6.alloc (.cells #[.int .u64 10, .int .u64 2, .int .u64 0, .slice A5 2 c5, .int .u64 7, .int .u64 3, .int .u64 0, .slice A6 1 c6] 37)) := (Kp.refl _ _).alloc _
            have z7 : (w6.alloc (.cells #[.int .u64 10, .int .u64 2, .int .u64 0, .slice A5 2 c5, .int .u64 7, .int .u64 3, .int .u64 0, .slice A6 1 c6] 37)).heap.size = w6.heap.size + 1 := by simp
            obtain ⟨w7, hw7⟩ : ∃ w7, (w6.alloc (.cells #[.int .u64 10, .int .u64 2, .int .u64 0, .slice A5 2 c5, .int .u64 7, .int .u64 3, .int .u64 0, .slice A6 1 c6] 37)) = w7 := ⟨_, rfl⟩
            rw [show (w6.alloc (.cells ([.int .u64 10, .int .u64 2, .int .u64 0, .slice A5 2 c5, .int .u64 7, .int .u64 3, .int .u64 0, .slice A6 1 c6] : List Value).toArray 37)) = w7 from hw7] at hb7
            rw [hw7] at k67 z7
            rw [hw7] at ob7
            have k47 := (k5.thenN k6).thenN k67
            have hc7 : CellsAt w7 w2.heap.size [.int .u64 7, n64 to, n64 m, n64 fr, n64 m, n64 fr, .int .u64 0, n64 ti, n64 sq, n64 li, .slice none 0 0, .slice none 0 0] := hc4.keep (by omega) k47 (fun x => x)
            have c710 : w7.cell? ⟨w2.heap.size, 10, none⟩ = some (.slice none 0 0) := hc7.at_ 10 rfl
            have f710 : w7.frozen? ⟨w2.heap.size, 10, none⟩ = false := hc7.2 10
            have hc8 : CellsAt (w7.setCell ⟨w2.heap.size, 10, none⟩ (.slice (some ⟨w6.heap.size, 0, none⟩) 2 2)) w2.heap.size [.int .u64 7, n64 to, n64 m, n64 fr, n64 m, n64 fr, .int .u64 0, n64 ti, n64 sq, n64 li, .slice (some ⟨w6.heap.size, 0, none⟩) 2 2, .slice none 0 0] := hc7.set 10 (.slice (some ⟨w6.heap.size, 0, none⟩) 2 2) (by simp)
            have k78 : Kp (fun x => x = w2.heap.size) w7 (w7.setCell ⟨w2.heap.size, 10, none⟩ (.slice (some ⟨w6.heap.size, 0, none⟩) 2 2)) := kp1_set3 _ _ _
            have k28 : KpN w2 (w7.setCell ⟨w2.heap.size, 10, none⟩ (.slice (some ⟨w6.heap.size, 0, none⟩) 2 2)) := (k24.thenN k47).fresh k78 (fun i e => by omega)
            have hd8 : (w7.setCell ⟨w2.heap.size, 10, none⟩ (.slice (some ⟨w6.heap.size, 0, none⟩) 2 2)).cell? ⟨w.heap.size, 4, none⟩ = some (.slice A L c) := (kbx.keep (by have := HZ.out; omega) k28 (fun x => x)).at_ 4 rfl
            have hpl := HH.out.keepN (kb.thenN k28)
            obtain ⟨v9, w9, r9, o9, k9⟩ := run_appB_nil (P := Try.prog) (ty := 27) (w7.setCell ⟨w2.heap.size, 10, none⟩ (.slice (some ⟨w6.heap.size, 0, none⟩) 2 2)) Try.underlying27 u8info hpl (by have := HLL.out.2; omega)
            obtain ⟨A9, c9, rfl, -⟩ := o9.readsB.form
            rw [HLL.out.1] at r9 o9
            have hz8 := k78.size
            have hz9 := k9.size
            have hc9 := hc8.keep (by omega) k9 (fun x => x)
            have c911 : w9.cell? ⟨w2.heap.size, 11, none⟩ = some (.slice none 0 0) := hc9.at_ 11 rfl
            have f911 : w9.frozen? ⟨w2.heap.size, 11, none⟩ = false := hc9.2 11
            have hc10 : CellsAt (w9.setCell ⟨w2.heap.size, 11, none⟩ (.slice A9 L c9)) w2.heap.size [.int .u64 7, n64 to, n64 m, n64 fr, n64 m, n64 fr, .int .u64 0, n64 ti, n64 sq, n64 li, .slice (some ⟨w6.heap.size, 0, none⟩) 2 2, .slice A9 L c9] := hc9.set 11 (.slice A9 L c9) (by simp)
            have hl10 := run_loadAt_rowat (P := Try.prog) hc10.1 Try.underlying34 rfl (by kernel_rfl)
            have k910 : Kp (fun x => x = w2.heap.size) w9 (w9.setCell ⟨w2.heap.size, 11, none⟩ (.slice A9 L c9)) := kp1_set3 _ _ _
            have k210 : KpN w2 (w9.setCell ⟨w2.heap.size, 11, none⟩ (.slice A9 L c9)) := (k28.thenN k9).fresh k910 (fun i e => by omega)
            have hr10 : CellsAt (w9.setCell ⟨w2.heap.size, 11, none⟩ (.slice A9 L c9)) (w.heap.size + 1) [.int .u64 0, .int .u64 0, .int .u64 0, .int .u64 0, .int .u64 0, .int .u64 0, .int .u64 0, .int .u64 0, .int .u64 0, .int .u64 0, .slice none 0 0, .slice none 0 0] := krs.keep (by have := HZ.out; omega) k210 (fun x => x)
            have hst11 := run_storeAt_mid (P := Try.prog) (w9.setCell ⟨w2.heap.size, 11, none⟩ (.slice A9 L c9)) (w.heap.size + 1) 0 34 #[.int .u64 7, n64 to, n64 m, n64 fr, n64 m, n64 fr, .int .u64 0, n64 ti, n64 sq, n64 li, .slice (some ⟨w6.heap.size, 0, none⟩) 2 2, .slice A9 L c9] (hr10.there _ (Nat.le_refl _)) (by kernel_rfl) (by kernel_rfl)
            have hr11 := hr10.put (ds := [.int .u64 7, n64 to, n64 m, n64 fr, n64 m, n64 fr, .int .u64 0, n64 ti, n64 sq, n64 li, .slice (some ⟨w6.heap.size, 0, none⟩) 2 2, .slice A9 L c9]) rfl
            have k1011 := Kp.setCells (w.heap.size + 1) [.int .u64 7, n64 to, n64 m, n64 fr, n64 m, n64 fr, .int .u64 0, n64 ti, n64 sq, n64 li, .slice (some ⟨w6.heap.size, 0, none⟩) 2 2, .slice A9 L c9] 0 (w9.setCell ⟨w2.heap.size, 11, none⟩ (.slice A9 L c9))
            have k011 : KpN w ((w9.setCell ⟨w2.heap.size, 11, none⟩ (.slice A9 L c9)).setCells (w.heap.size + 1) 0 [.int .u64 7, n64 to, n64 m, n64 fr, n64 m, n64 fr, .int .u64 0, n64 ti, n64 sq, n64 li, .slice (some ⟨w6.heap.size, 0, none⟩) 2 2, .slice A9 L c9]) := (kb.thenN k210).fresh k1011 (fun i e => by omega)
            have k911 : Kp (fun x => x = w2.heap.size ∨ x = w.heap.size + 1) w9 ((w9.setCell ⟨w2.heap.size, 11, none⟩ (.slice A9 L c9)).setCells (w.heap.size + 1) 0 [.int .u64 7, n64 to, n64 m, n64 fr, n64 m, n64 fr, .int .u64 0, n64 ti, n64 sq, n64 li, .slice (some ⟨w6.heap.size, 0, none⟩) 2 2, .slice A9 L c9]) := (k910.mono (fun i _ e => .inl e)).trans k1011 (fun i _ e => e) (fun i _ e => .inr e)
            have k711 : Kp (fun x => x = w2.heap.size ∨ x = w.heap.size + 1) w7 ((w9.setCell ⟨w2.heap.size, 11, none⟩ (.slice A9 L c9)).setCells (w.heap.size + 1) 0 [.int .u64 7, n64 to, n64 m, n64 fr, n64 m, n64 fr, .int .u64 0, n64 ti, n64 sq, n64 li, .slice (some ⟨w6.heap.size, 0, none⟩) 2 2, .slice A9 L c9]) := ((k78.mono (fun i _ e => .inl e)).trans k9 (fun i _ e => e) (fun i _ e => e.elim)).trans k911 (fun i _ e => e) (fun i _ e => e)
            have hlo := HZ.out
            have hbl := two_own (((ob7.keep k711 (fun i hi e => by have := hi.1; omega)).wide (G := Iv w.heap.size ((w9.setCell ⟨w2.heap.size, 11, none⟩ (.slice A9 L c9)).setCells (w.heap.size + 1) 0 [.int .u64 7, n64 to, n64 m, n64 fr, n64 m, n64 fr, .int .u64 0, n64 ti, n64 sq, n64 li, .slice (some ⟨w6.heap.size, 0, none⟩) 2 2, .slice A9 L c9]).heap.size) (fun i hk hi => ⟨by have := hi.1; omega, hk⟩))) (((OwB.keep (xs := [8, 0]) (o5.keepN (k6.thenN k67)) k711 (fun i hi e => by have := hi.1; omega)).wide (G := Iv w.heap.size ((w9.setCell ⟨w2.heap.size, 11, none⟩ (.slice A9 L c9)).setCells (w.heap.size + 1) 0 [.int .u64 7, n64 to, n64 m, n64 fr, n64 m, n64 fr, .int .u64 0, n64 ti, n64 sq, n64 li, .slice (some ⟨w6.heap.size, 0, none⟩) 2 2, .slice A9 L c9]).heap.size) (fun i hk hi => ⟨by have := hi.1; omega, hk⟩))) (((OwB.keep (xs := [0]) (o6.keepN k67) k711 (fun i hi e => by have := hi.1; omega)).wide (G := Iv w.heap.size ((w9.setCell ⟨w2.heap.size, 11, none⟩ (.slice A9 L c9)).setCells (w.heap.size + 1) 0 [.int .u64 7, n64 to, n64 m, n64 fr, n64 m, n64 fr, .int .u64 0, n64 ti, n64 sq, n64 li, .slice (some ⟨w6.heap.size, 0, none⟩) 2 2, .slice A9 L c9]).heap.size) (fun i hk hi => ⟨by have := hi.1; omega, hk⟩))) (fun k h1 h2 => by have := (o5.fit k h1).2; have := (o6.fit k h2).1; omega)
            have hp11 := (OwB.keep o9 k911 (fun i hi e => by have := hi.1; have := HZ.out; omega)).wide (G := Iv w.heap.size ((w9.setCell ⟨w2.heap.size, 11, none⟩ (.slice A9 L c9)).setCells (w.heap.size + 1) 0 [.int .u64 7, n64 to, n64 m, n64 fr, n64 m, n64 fr, .int .u64 0, n64 ti, n64 sq, n64 li, .slice (some ⟨w6.heap.size, 0, none⟩) 2 2, .slice A9 L c9]).heap.size) (fun i hk hi => ⟨by have := hi.1; omega, hk⟩)
            have hap : ∀ p ∈ [((.slice A5 2 c5 : Value), (⟨10, 2, 0, [8, 0]⟩ : Blk)), (.slice A6 1 c6, ⟨7, 3, 0, [0]⟩)], ∀ k, p.1.ownBlock = some k → (Value.slice A9 L c9).ownBlock ≠ some k := fun p hp k h1 h2 => by
              have h9 := (o9.fit k h2).1
              simp only [List.mem_cons, List.not_mem_nil, or_false] at hp
              rcases hp with rfl | rfl
              · have := (o5.fit k h1).2; omega
              · have := (o6.fit k h1).2; omega
            have hfin : WrapO (m : Int) ti sq li fr to xs true w (.returned (.tuple #[.agg ([.int .u64 7, n64 to, n64 m, n64 fr, n64 m, n64 fr, .int .u64 0, n64 ti, n64 sq, n64 li, .slice (some ⟨w6.heap.size, 0, none⟩) 2 2, .slice A9 L c9] : List Value).toArray, .int .i64 0])) ((w9.setCell ⟨w2.heap.size, 11, none⟩ (.slice A9 L c9)).setCells (w.heap.size + 1) 0 [.int .u64 7, n64 to, n64 m, n64 fr, n64 m, n64 fr, .int .u64 0, n64 ti, n64 sq, n64 li, .slice (some ⟨w6.heap.size, 0, none⟩) 2 2, .slice A9 L c9]) := by
              unfold WrapO
              rw [hwf, show wrapB (m : Int) ti sq li fr to xs true = wrapD (m : Int) ti sq li fr to xs true by unfold wrapB; rw [if_pos hwf]]
              exact ⟨_, _, _, rfl, ⟨⟨show (7 : Nat) < 18446744073709551616 by decide, HU.out.2.2.2.2, hmU, HU.out.2.2.2.1, hmU, HU.out.2.2.2.1, show (0 : Nat) < 18446744073709551616 by decide, HU.out.1, HU.out.2.1, HU.out.2.2.1⟩, hbl, rfl, hp11, hap⟩, k011⟩
            have HF := Lib.hid hfin
            have HL := Lib.hid (And.intro hl10 (And.intro hst11 (And.intro hr11 hw7)))
            clear hlo hap ob7 hw7 hl10 hst11 hr11 hfin hbl hp11 hpl hb7 hc4 hc7 hc8 hc9 hc10 hr10 o5 o6 o9 k24 krs kbx k67 k47 k78 k28 k9 k910 k210 k1011 k011 k911 k711 z7 hz8 hz9 hz3 hz5 hz6 hz4 k5 k6
            go_wp2_with (first
              | (at_builtin; ((with_reducible show wpList _ _ _ _ _ (w7.setCell ⟨w2.heap.size, 10, none⟩ (.slice (some ⟨w6.heap.size, 0, none⟩) 2 2))); refine app_op r9 rfl rfl ?_))
              | ((with_reducible show wpList _ _ _ (Oper.mk _ (Op.build 37 _) _ _ _ _ :: _) _ _); refine wpl_val rfl (run_buildBB rfl rfl rfl) ?_)
              | ((with_reducible show wpList _ _ _ (Oper.mk _ (Op.buildSlice 32 2 _) _ _ _ _ :: _) _ _); refine wpl_val rfl (run_twoBlk rfl rfl) ?_; rw [HL.out.2.2.2])
              | ((with_reducible show wpList _ _ _ (Oper.mk _ (Op.load 34 _) _ _ _ _ :: _) _ _); refine wpl_val rfl (run_load_opv HL.out.1 rfl) ?_)
              | ((with_reducible show wpList _ _ _ (Oper.mk _ (Op.store 34 _ _) _ _ _ _ :: _) _ _); refine wpl_skip rfl (run_store_op HL.out.2.1 rfl rfl) ?_))
            (try simp only [Exit.inBlock, Exit.then])
            refine bodyPost_ret (results_cell_tmp_at rfl _ _ rfl HL.out.2.2.1.1 Try.underlying34 rfl (by kernel_rfl)) rfl ?_
            exact HF.out
end Go.Proofs.Yteokkpmndfekoaa
