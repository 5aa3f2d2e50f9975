/- bundle.Open. -/
import Derived.Test.YteokkpmndfekoaaFX
import Derived.Test.YteokkpmndfekoaaBM
namespace Go.Proofs.Yteokkpmndfekoaa
open Go Go.RowKit Go.ChangeShapes Go.WideShapes Go.ChangeAt
set_option maxRecDepth 100000

/-- what Open answers -/
def opE (b : Bdl) : Int := if valE b = 0 then (if b.fl % 2 = 0 ∨ b.e1 ≠ b.e3 ∨ 8 ≤ b.e1 then 21 else 0) else valE b
structure Fr where
  s : Nat
  ti : Nat
  sq : Nat
  li : Nat
  da : List UInt8
  fr : Nat
  nw : Bool
def opF (b : Bdl) : Fr := if opE b = 0 then ⟨b.e1, b.ti, b.sq, b.li, b.pl, b.e2, decide (b.fl / 2 % 2 = 1)⟩ else ⟨0, 0, 0, 0, [], 0, false⟩
def OpenP (b : Bdl) (w : World) (e : Ending) (w' : World) : Prop := ∃ u, e = .returned (.tuple #[frV (opF b).s (opF b).ti (opF b).sq (opF b).li u, n64 (opF b).fr, .bool (opF b).nw, .int .i64 (opE b)]) ∧ OwB w' 5 (Iv w.heap.size w'.heap.size) u (opF b).da ∧ KpN w w'
def ROpenP (b : Bdl) (w : World) (e : Ending) (w' : World) : Prop := ∃ u, e = .returned (.tuple #[frV (opF b).s (opF b).ti (opF b).sq (opF b).li u, n64 (opF b).fr, .bool (opF b).nw, .int .i64 (opE b)]) ∧ RdB w' u (opF b).da ∧ KpN w w'
theorem results_cell_tmp3_at {P : Program} {fn : Func} {p u1 u2 u3 : Tmp} {ty : TypeId} (h : fn.results = #[.cell p ty, .tmp u1, .tmp u2, .tmp u3]) (tmps : Array Value) (w : World) {ad : Addr} {cs : List Value} {d : TypeDesc}
    (hp : tmps.getD p undef = .pointer (some ad)) (hrow : RowAt w ad cs) (hu : P.underlying ty = some d) (hd : d.isRow = true) (hi : (P.info? ty).map (·.size) = some cs.length) :
    (results fn tmps).run P w = .ok (.tuple #[.agg cs.toArray, tmps.getD u1 undef, tmps.getD u2 undef, tmps.getD u3 undef]) w := by
  have hp' : tmps[p]?.getD undef = .pointer (some ad) := by simpa using hp
  simp [results, h, hp', asAddr, run_loadVar_rowat hrow hu hd hi]
abbrev zero5 : List Value := [.int .i64 0, .int .u64 0, .int .u64 0, .int .u64 0, .slice none 0 0]
theorem and1 (m : Nat) (h : m < 18446744073709551616) : bits .and .u64 (m : Int) 1 = ((m % 2 : Nat) : Int) := by
  have := u64_and_nat m 1 h (by omega)
  rw [Nat.and_one_is_mod] at this
  exact this
theorem and2 (m : Nat) (h : m < 18446744073709551616) : bits .and .u64 (m : Int) 2 = ((m / 2 % 2 * 2 : Nat) : Int) := by
  have h1 := u64_and_nat m 2 h (by omega)
  have h2 : m &&& 2 = m / 2 % 2 * 2 := by
    have a1 : (m &&& 2) / 2 = m / 2 % 2 := by
      have := Nat.and_div_two (a := m) (b := 2)
      rw [this, show 2 / 2 = 1 from rfl, Nat.and_one_is_mod]
    have a2 : (m &&& 2) % 2 = 0 := by
      have := Nat.and_mod_two_pow (a := m) (b := 2) (n := 1)
      simp at this
      exact this
    omega
  rw [h2] at h1
  exact h1
theorem CellsAt.row {w : World} {g : Nat} {cs : List Value} (h : CellsAt w g cs) (o : Nat) (ds : List Value) (hd : ∀ j v, ds[j]? = some v → cs[o + j]? = some v) : RowAt w ⟨g, o, none⟩ ds := fun j v hj => by
  have := h.at_ (o + j) (hd j v hj)
  have e : (⟨g, o, none⟩ : Addr).add j = ⟨g, o + j, none⟩ := by unfold Addr.add; split <;> simp_all
  rw [e]
  exact this
theorem run_buildFr {x0 x1 x2 x3 : Operand} {s ti sq li : Int} {A : Option Addr} {n c : Nat} {a : Act} {dst : Option Tmp} {ty : TypeId} {pos : String} {af : Array Edge} {gd : Option (Nat × Bool)} {w : World}
    (h0 : a.eval x0 = .int .i64 s) (h1 : a.eval x1 = .agg #[.int .u64 ti, .int .u64 sq]) (h2 : a.eval x2 = .int .u64 li) (h3 : a.eval x3 = .slice A n c) :
    (execOp a.eval { dst := dst, op := .build 47 #[(0, x0), (1, x1), (2, x2), (3, x3)], type := ty, pos := pos, after := af, guard := gd }).run Try.prog w = .ok (.value (.agg #[.int .i64 s, .int .u64 ti, .int .u64 sq, .int .u64 li, .slice A n c])) w := by
  unfold execOp
  simp only [List.map_toArray, List.map_cons, List.map_nil, h0, h1, h2, h3]
  kernel_rfl
set_option maxHeartbeats 6400000 in
theorem open_c {w : World} {bv pv : Value} {b : Bdl} (h : RdBd w bv pv b) (hsz : bdSize b ≤ 10000000) : Calls Try.prog 29 #[bdV b bv pv] w (OpenP b w) := by
  obtain ⟨bA, bc, rfl, -⟩ := h.bl.form
  obtain ⟨pA, pc, rfl, -⟩ := h.pl.form
  have hpl := (bdSize_len b).2.1
  obtain ⟨w2, hw2⟩ : ∃ w2, ((w.alloc (.cells #[n64 b.fl, n64 b.e0, n64 b.e1, n64 b.e2, n64 b.e3, n64 b.e4, n64 b.e5, n64 b.ti, n64 b.sq, n64 b.li, .slice bA b.bl.length bc, .slice pA b.pl.length pc] 34)).alloc (.cells zero5.toArray 47)) = w2 := ⟨_, rfl⟩
  have k2 : KpN w w2 := by rw [← hw2]; exact ((Kp.refl _ w).alloc _).alloc _
  have hz2 : w2.heap.size = w.heap.size + 2 := by rw [← hw2]; simp
  have hB : CellsAt w2 w.heap.size (bdC b (.slice bA b.bl.length bc) (.slice pA b.pl.length pc)) := by
    rw [← hw2]
    exact (CellsAt.new w (bdC b (.slice bA b.bl.length bc) (.slice pA b.pl.length pc)) 34).keep (by simp) ((Kp.refl (fun _ => False) _).alloc _) (fun x => x)
  have hF : CellsAt w2 (w.heap.size + 1) zero5 := by
    rw [← hw2]
    have := CellsAt.new (w.alloc (.cells #[n64 b.fl, n64 b.e0, n64 b.e1, n64 b.e2, n64 b.e3, n64 b.e4, n64 b.e5, n64 b.ti, n64 b.sq, n64 b.li, .slice bA b.bl.length bc, .slice pA b.pl.length pc] 34)) zero5 47
    rwa [show (w.alloc (.cells #[n64 b.fl, n64 b.e0, n64 b.e1, n64 b.e2, n64 b.e3, n64 b.e4, n64 b.e5, n64 b.ti, n64 b.sq, n64 b.li, .slice bA b.bl.length bc, .slice pA b.pl.length pc] 34)).heap.size = w.heap.size + 1 by simp] at this
  have hv := valid_c (h.keepN k2) hsz
  have hop : opE b = if valE b = 0 then (if b.fl % 2 = 0 ∨ b.e1 ≠ b.e3 ∨ 8 ≤ b.e1 then 21 else 0) else valE b := rfl
  have hof : opF b = if opE b = 0 then ⟨b.e1, b.ti, b.sq, b.li, b.pl, b.e2, decide (b.fl / 2 % 2 = 1)⟩ else ⟨0, 0, 0, 0, [], 0, false⟩ := rfl
  unfold OpenP
  obtain ⟨V, hV⟩ : ∃ V, valE b = V := ⟨_, rfl⟩
  obtain ⟨O, hO⟩ : ∃ O, opE b = O := ⟨_, rfl⟩
  obtain ⟨R, hR⟩ : ∃ R, opF b = R := ⟨_, rfl⟩
  rw [hV] at hv hop
  rw [hO] at hop hof ⊢
  rw [hR] at hof ⊢
  have hul : U64 b.fl := h.ok.1
  have hu1 : U64 b.e1 := h.ok.2.2.1
  have HH := Lib.hid (And.intro hw2 (And.intro k2 (And.intro hB (And.intro hF hz2))))
  have HR := Lib.hid (And.intro h (And.intro hsz hpl))
  have HP := Lib.hid (And.intro hop hof)
  clear hw2 k2 hz2 hB hF hop hof hV hO hR h hsz hpl
  go_enter Try.func29, Try.ntmps29
  go_wp2_with (first
    | ((with_reducible show wpList _ _ _ _ _ (World.alloc (World.alloc w _) _)); rw [HH.out.1])
    | ((with_reducible show wpList _ _ _ (Oper.mk _ (Op.load 34 _) _ _ _ _ :: _) _ _); refine wpl_val rfl (run_load_opv (bd_loadN HH.out.2.2.1 (by have := HH.out.2.2.2.2; omega) (Kp.refl _ _)) rfl) ?_)
    | fail)
  refine hv.mono ?_
  rintro e w3 ⟨rfl, k3⟩
  clear hv
  have hF3 := HH.out.2.2.2.1.keep (by have := HH.out.2.2.2.2; omega) k3 (fun x => x)
  have hB3 := HH.out.2.2.1.keep (by have := HH.out.2.2.2.2; omega) k3 (fun x => x)
  have hz3 := k3.size
  have H3 := Lib.hid (And.intro hF3 (And.intro hB3 (And.intro (HH.out.2.1.thenN k3) (show w.heap.size + 2 ≤ w3.heap.size by have := HH.out.2.2.2.2; omega))))
  clear hF3 hB3 k3 hz3
  by_cases hV0 : V = 0
  rotate_left 1
  · have ho := HP.out.1
    rw [if_neg hV0] at ho
    have hr := HP.out.2
    rw [if_neg (by rw [ho]; exact hV0)] at hr
    obtain ⟨w4, hst, hX4, k4, hz4⟩ := box_store H3.out.1 47 zero5.toArray rfl (by kernel_rfl) (by kernel_rfl)
    have hld := run_loadAt_rowat (P := Try.prog) H3.out.1.1 Try.underlying47 rfl (by kernel_rfl)
    have HF := Lib.hid (And.intro ho (And.intro hr (And.intro hst (And.intro hX4 (And.intro (H3.out.2.2.1.fresh k4 (fun i e => by omega)) hld)))))
    have hV' : (V == 0) = false := by simp [hV0]
    have hV'' : (V != 0) = true := by simp [hV0]
    clear ho hr hst hX4 k4 hz4 hV0 hld
    go_wp2_with (first
      | ((with_reducible show wpList _ _ _ (Oper.mk _ (Op.load 47 _) _ _ _ _ :: _) _ _); refine wpl_val rfl (run_load_opv HF.out.2.2.2.2.2 rfl) ?_)
      | ((with_reducible show wpList _ _ _ (Oper.mk _ (Op.store 47 _ _) _ _ _ _ :: _) _ _); refine wpl_skip rfl (run_store_op HF.out.2.2.1 rfl rfl) ?_)
      | fail)
    (try simp only [Exit.inBlock, Exit.then])
    refine bodyPost_ret (results_cell_tmp3_at rfl _ _ rfl HF.out.2.2.2.1.1 Try.underlying47 rfl (by kernel_rfl)) rfl ?_
    exact ⟨.slice none 0 0, by rw [HF.out.1, HF.out.2.1]; rfl, by rw [HF.out.2.1]; exact OwB.nil _ _ _, HF.out.2.2.2.2.1⟩
  subst hV0
  have ho := HP.out.1
  rw [if_pos rfl] at ho
  have a1 := and1 b.fl hul
  have a2 := and2 b.fl hul
  have c2 := H3.out.2.1.at_ 2 rfl
  have c0 := H3.out.2.1.at_ 0 rfl
  have c4 := H3.out.2.1.at_ 4 rfl
  by_cases hbad : b.fl % 2 = 0 ∨ b.e1 ≠ b.e3 ∨ 8 ≤ b.e1
  · rw [if_pos hbad] at ho
    have hr := HP.out.2
    rw [if_neg (by rw [ho]; simp)] at hr
    obtain ⟨w4, hst, hX4, k4, hz4⟩ := box_store H3.out.1 47 zero5.toArray rfl (by kernel_rfl) (by kernel_rfl)
    have hld := run_loadAt_rowat (P := Try.prog) H3.out.1.1 Try.underlying47 rfl (by kernel_rfl)
    have HF := Lib.hid (And.intro ho (And.intro hr (And.intro hst (And.intro hX4 (And.intro (H3.out.2.2.1.fresh k4 (fun i e => by omega)) hld)))))
    clear ho hr hst hX4 k4 hz4 hld a2
    by_cases t1 : b.fl % 2 = 0
    · rw [t1] at a1
      clear t1 hbad
      go_wp2_with (first
        | ((with_reducible show wpList _ _ _ (Oper.mk _ (Op.load 47 _) _ _ _ _ :: _) _ _); refine wpl_val rfl (run_load_opv HF.out.2.2.2.2.2 rfl) ?_)
        | ((with_reducible show wpList _ _ _ (Oper.mk _ (Op.store 47 _ _) _ _ _ _ :: _) _ _); refine wpl_skip rfl (run_store_op HF.out.2.2.1 rfl rfl) ?_)
        | fail)
      (try simp only [Exit.inBlock, Exit.then])
      refine bodyPost_ret (results_cell_tmp3_at rfl _ _ rfl HF.out.2.2.2.1.1 Try.underlying47 rfl (by kernel_rfl)) rfl ?_
      exact ⟨.slice none 0 0, by rw [HF.out.1, HF.out.2.1]; rfl, by rw [HF.out.2.1]; exact OwB.nil _ _ _, HF.out.2.2.2.2.1⟩
    · rw [show b.fl % 2 = 1 by omega] at a1
      by_cases t2 : b.e1 = b.e3
      · have t3 : (8 : Int) ≤ (b.e1 : Int) := by
          rcases hbad with hh | hh | hh
          · exact absurd hh t1
          · exact absurd t2 hh
          · omega
        rw [← t2] at c4
        clear t1 hbad t2
        go_wp2_with (first
          | ((with_reducible show wpList _ _ _ (Oper.mk _ (Op.load 47 _) _ _ _ _ :: _) _ _); refine wpl_val rfl (run_load_opv HF.out.2.2.2.2.2 rfl) ?_)
          | ((with_reducible show wpList _ _ _ (Oper.mk _ (Op.store 47 _ _) _ _ _ _ :: _) _ _); refine wpl_skip rfl (run_store_op HF.out.2.2.1 rfl rfl) ?_)
          | fail)
        (try simp only [Exit.inBlock, Exit.then])
        refine bodyPost_ret (results_cell_tmp3_at rfl _ _ rfl HF.out.2.2.2.1.1 Try.underlying47 rfl (by kernel_rfl)) rfl ?_
        exact ⟨.slice none 0 0, by rw [HF.out.1, HF.out.2.1]; rfl, by rw [HF.out.2.1]; exact OwB.nil _ _ _, HF.out.2.2.2.2.1⟩
      · have t2' : ((b.e1 : Int) != (b.e3 : Int)) = true := by simp; omega
        have t2'' : ((b.e1 : Int) == (b.e3 : Int)) = false := by simp; omega
        clear t1 hbad t2
        go_wp2_with (first
          | ((with_reducible show wpList _ _ _ (Oper.mk _ (Op.load 47 _) _ _ _ _ :: _) _ _); refine wpl_val rfl (run_load_opv HF.out.2.2.2.2.2 rfl) ?_)
          | ((with_reducible show wpList _ _ _ (Oper.mk _ (Op.store 47 _ _) _ _ _ _ :: _) _ _); refine wpl_skip rfl (run_store_op HF.out.2.2.1 rfl rfl) ?_)
          | fail)
        (try simp only [Exit.inBlock, Exit.then])
        refine bodyPost_ret (results_cell_tmp3_at rfl _ _ rfl HF.out.2.2.2.1.1 Try.underlying47 rfl (by kernel_rfl)) rfl ?_
        exact ⟨.slice none 0 0, by rw [HF.out.1, HF.out.2.1]; rfl, by rw [HF.out.2.1]; exact OwB.nil _ _ _, HF.out.2.2.2.2.1⟩
  · rw [if_neg hbad] at ho
    have hr := HP.out.2
    rw [if_pos ho] at hr
    have t1 : b.fl % 2 = 1 := by omega
    have t2 : b.e3 = b.e1 := by
      by_cases e : b.e1 = b.e3
      · exact e.symm
      · exact absurd (.inr (.inl e)) hbad
    have t3 : decide ((8 : Int) ≤ (b.e1 : Int)) = false := by
      have : ¬ 8 ≤ b.e1 := fun e => hbad (.inr (.inr e))
      simp
      omega
    have t3' : (b.e1 : Int) < 8 := by
      have : ¬ 8 ≤ b.e1 := fun e => hbad (.inr (.inr e))
      omega
    rw [t1] at a1
    rw [t2] at c4
    have c3 := H3.out.2.1.at_ 3 rfl
    have c9 := H3.out.2.1.at_ 9 rfl
    have c11 := H3.out.2.1.at_ 11 rfl
    have HF := Lib.hid (And.intro ho (And.intro hr t2))
    clear ho hr t1 t2 hbad
    go_wp2_with fail
    refine rg_begin 11 (fun k => k = w.heap.size + 1) (by kernel_rfl) (fun w5 d5 => ?_)
    have hz5 := d5.size
    have hB5 := H3.out.2.1.keep (by have := H3.out.2.2.2; omega) d5 (fun x => x)
    have hF5 := H3.out.1.keep (by have := H3.out.2.2.2; omega) d5 (fun x => x)
    have hl5 : w.heap.size + 2 ≤ w5.heap.size := by have := H3.out.2.2.2; omega
    have hBW : ∀ W, Kp (fun k => k = w.heap.size + 1) w5 W → CellsAt W w.heap.size (bdC b (.slice bA b.bl.length bc) (.slice pA b.pl.length pc)) := fun W hW => hB5.keep (by omega) hW (by omega)
    obtain ⟨v8, w8, r8, o8, k8⟩ := run_appB_nil (P := Try.prog) (ty := 27) w5 Try.underlying27 u8info (HR.out.1.pl.keepN (H3.out.2.2.1.thenN d5)) (by have := HR.out.2.1; have := HR.out.2.2; omega)
    have hz8 := k8.size
    obtain ⟨uA, uc, rfl, -⟩ := o8.readsB.form
    have hF8 := hF5.keep (by omega) k8 (fun x => x)
    obtain ⟨w9, hst, hX9, k9, hz9⟩ := box_store hF8 47 #[.int .i64 b.e1, n64 b.ti, n64 b.sq, n64 b.li, .slice uA b.pl.length uc] rfl (by kernel_rfl) (by kernel_rfl)
    refine rg_take 0 (d := (some 33)) (v := n64 b.e1) (by decide) rfl rfl (by kernel_rfl) (by kernel_rfl) (by kernel_rfl) (fun _ _ _ h => h) rfl (fun W => rfl) ?_
    conv => arg 8; simp only [Act.put, List.setIfInBounds_toArray, List.set_cons_zero, List.set_cons_succ]
    refine rg_take 1 (d := (some 34)) (v := .int .i64 (b.e1 : Int)) (by decide) rfl rfl (by kernel_rfl) (by kernel_rfl) (by kernel_rfl) (fun _ _ _ h => h) rfl (fun W => by have hwr := wrap_id64 (b.e1 : Int) (by omega) (by omega); go_simp) ?_
    conv => arg 8; simp only [Act.put, List.setIfInBounds_toArray, List.set_cons_zero, List.set_cons_succ]
    refine rg_take 2 (d := (some 35)) (v := .pointer (some ⟨w.heap.size, 7, none⟩)) (by decide) rfl rfl (by kernel_rfl) (by kernel_rfl) (by kernel_rfl) (fun _ _ _ h => h) rfl (fun W => by go_simp) ?_
    conv => arg 8; simp only [Act.put, List.setIfInBounds_toArray, List.set_cons_zero, List.set_cons_succ]
    refine rg_read 3 (d := (some 36)) (v := .agg #[n64 b.ti, n64 b.sq]) (by decide) (by kernel_rfl) (by kernel_rfl) rfl rfl (by kernel_rfl) (by kernel_rfl) (by kernel_rfl) (fun _ _ _ h => h) rfl (fun W hW => by exact run_load_op ((hBW W hW).row 7 [n64 b.ti, n64 b.sq] (fun j v hj => by match j, hj with | 0, hj => exact hj | 1, hj => exact hj)) rfl Try.underlying25 rfl (by kernel_rfl)) ?_
    conv => arg 8; simp only [Act.put, List.setIfInBounds_toArray, List.set_cons_zero, List.set_cons_succ]
    refine rg_take 4 (d := (some 37)) (v := .pointer (some ⟨w.heap.size, 9, none⟩)) (by decide) rfl rfl (by kernel_rfl) (by kernel_rfl) (by kernel_rfl) (fun _ _ _ h => h) rfl (fun W => by go_simp) ?_
    conv => arg 8; simp only [Act.put, List.setIfInBounds_toArray, List.set_cons_zero, List.set_cons_succ]
    refine rg_read 5 (d := (some 38)) (v := n64 b.li) (by decide) (by kernel_rfl) (by kernel_rfl) rfl rfl (by kernel_rfl) (by kernel_rfl) (by kernel_rfl) (fun _ _ _ h => h) rfl (fun W hW => by have hc := (fun W hW => (hBW W hW).at_ 9 rfl) W hW; go_simp) ?_
    conv => arg 8; simp only [Act.put, List.setIfInBounds_toArray, List.set_cons_zero, List.set_cons_succ]
    refine rg_take 6 (d := (some 39)) (v := .pointer (some ⟨w.heap.size, 11, none⟩)) (by decide) rfl rfl (by kernel_rfl) (by kernel_rfl) (by kernel_rfl) (fun _ _ _ h => h) rfl (fun W => by go_simp) ?_
    conv => arg 8; simp only [Act.put, List.setIfInBounds_toArray, List.set_cons_zero, List.set_cons_succ]
    refine rg_read 7 (d := (some 40)) (v := .slice pA b.pl.length pc) (by decide) (by kernel_rfl) (by kernel_rfl) rfl rfl (by kernel_rfl) (by kernel_rfl) (by kernel_rfl) (fun _ _ _ h => h) rfl (fun W hW => by have hc := (fun W hW => (hBW W hW).at_ 11 rfl) W hW; go_simp) ?_
    conv => arg 8; simp only [Act.put, List.setIfInBounds_toArray, List.set_cons_zero, List.set_cons_succ]
    refine rg_onlyW 8 (w' := w8) (d := (some 41)) (v := .slice uA b.pl.length uc) rfl rfl (by kernel_rfl) rfl (run_append_op r8 rfl rfl) (k8.mono (fun _ _ x => x.elim)) ?_
    conv => arg 8; simp only [Act.put, List.setIfInBounds_toArray, List.set_cons_zero, List.set_cons_succ]
    refine rg_take 9 (d := (some 42)) (v := .agg #[.int .i64 (b.e1 : Int), n64 b.ti, n64 b.sq, n64 b.li, .slice uA b.pl.length uc]) (by decide) rfl rfl (by kernel_rfl) (by kernel_rfl) (by kernel_rfl) (fun _ _ _ h => h) rfl (fun W => run_buildFr rfl rfl rfl rfl) ?_
    conv => arg 8; simp only [Act.put, List.setIfInBounds_toArray, List.set_cons_zero, List.set_cons_succ]
    refine rg_onlyS 10 (w' := w9) (d := none) rfl rfl (by kernel_rfl) rfl (run_store_op hst rfl rfl) (k9) ?_
    conv => arg 8; simp only [Act.put, List.setIfInBounds_toArray, List.set_cons_zero, List.set_cons_succ]
    refine rg_done (by kernel_rfl) ?_
    have hB9 := ((H3.out.2.1.keep (by have := H3.out.2.2.2; omega) d5 (fun x => x)).keep (by omega) k8 (fun x => x)).keep (by omega) k9 (by omega)
    have q3 := hB9.at_ 3 rfl
    have q0 := hB9.at_ 0 rfl
    have g0 := hX9.at_ 0 rfl
    have g1 := hX9.at_ 1 rfl
    have g2 := hX9.at_ 2 rfl
    have g3 := hX9.at_ 3 rfl
    have g4 := hX9.at_ 4 rfl
    have f0 := hX9.2 0
    have f1 := hX9.2 1
    have f2 := hX9.2 2
    have f3 := hX9.2 3
    have f4 := hX9.2 4
    have hne : w.heap.size ≠ w.heap.size + 1 := by omega
    have hne2 : w.heap.size + 1 ≠ w.heap.size := by omega
    have kw9 : KpN w w9 := ((H3.out.2.2.1.thenN d5).thenN k8).fresh k9 (fun i e => by omega)
    have o9 := o8.keep k9 (fun i hi e => by have := hi.1; omega)
    have hB10 := ((((hX9.set 0 (.int .i64 (b.e1 : Int)) (by simp)).set 1 (n64 b.ti) (by simp)).set 2 (n64 b.sq) (by simp)).set 3 (n64 b.li) (by simp)).set 4 (.slice uA b.pl.length uc) (by simp)
    have k10 := (((((Kp.refl (fun k => k = w.heap.size + 1) w9).setCell (p := ⟨w.heap.size + 1, 0, none⟩) (.inl rfl) (.int .i64 (b.e1 : Int))).setCell (p := ⟨w.heap.size + 1, 1, none⟩) (.inl rfl) (n64 b.ti)).setCell (p := ⟨w.heap.size + 1, 2, none⟩) (.inl rfl) (n64 b.sq)).setCell (p := ⟨w.heap.size + 1, 3, none⟩) (.inl rfl) (n64 b.li)).setCell (p := ⟨w.heap.size + 1, 4, none⟩) (.inl rfl) (.slice uA b.pl.length uc) |>.drew
    have hB11 := hB10.keep (by simp; omega) (Kp.refl (fun _ => False) _).drew (fun x => x)
    have o11 := o9.keep k10 (fun i hi e => by have := hi.1; omega)
    have HZ := Lib.hid (And.intro hB11 (And.intro (o11.wide (G := Iv w.heap.size _) (fun i hi hh => ⟨by have := hh.1; omega, hi⟩)) (kw9.fresh k10 (fun i e => by omega))))
    clear hB10 hB11 k10 o9 o11 kw9 o8 hB9 hX9 k9 hst hF8 r8 k8 hF5 hB5 hBW d5 c3 c9 c11 c2 c0 c4 a1 t3 t3'
    rcases Nat.mod_two_eq_zero_or_one (b.fl / 2) with hq | hq
    · have a2' : bits .and .u64 (b.fl : Int) 2 = 0 := by rw [a2, hq]; rfl
      have HN := Lib.hid (show decide (b.fl / 2 % 2 = 1) = false by simp; omega)
      clear a2 hq
      go_wp2_with fail
      go_region
      go_wp2_with fail
      (try simp only [Exit.inBlock, Exit.then])
      refine bodyPost_ret (results_cell_tmp3_at rfl _ _ rfl HZ.out.1.1 Try.underlying47 rfl (by kernel_rfl)) rfl ?_
      exact ⟨_, by rw [HF.out.1, HF.out.2.1, HN.out]; rfl, by rw [HF.out.2.1]; exact HZ.out.2.1, HZ.out.2.2⟩
    · have a2' : bits .and .u64 (b.fl : Int) 2 = 2 := by rw [a2, hq]; rfl
      have HN := Lib.hid (show decide (b.fl / 2 % 2 = 1) = true by simp; omega)
      clear a2 hq
      go_wp2_with fail
      go_region
      go_wp2_with fail
      (try simp only [Exit.inBlock, Exit.then])
      refine bodyPost_ret (results_cell_tmp3_at rfl _ _ rfl HZ.out.1.1 Try.underlying47 rfl (by kernel_rfl)) rfl ?_
      exact ⟨_, by rw [HF.out.1, HF.out.2.1, HN.out]; rfl, by rw [HF.out.2.1]; exact HZ.out.2.1, HZ.out.2.2⟩
end Go.Proofs.Yteokkpmndfekoaa
