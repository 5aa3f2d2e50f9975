/- Numbers as arguments; BundleTravels: the walk. -/
import Derived.Test.YteokkpmndfekoaaHC
import Derived.Test.YteokkpmndfekoaaIA
import Derived.Test.YteokkpmndfekoaaBR
namespace Go.Proofs.Yteokkpmndfekoaa
open Go Go.RowKit Go.ChangeShapes Go.WideShapes Go.ChangeAt
set_option maxRecDepth 100000

def U64At (_ : World) (cs : List Value) (t : Nat) : Prop := cs = [n64 t] ∧ U64 t
def RdU (W : World) (v : Value) (ts : List Nat) : Prop := SlAt W 1 U64At v ts
theorem RdU.keepN {w w' : World} {v : Value} {ts : List Nat} (h : RdU w v ts) (k : KpN w w') : RdU w' v ts := SlAt.keep h k (fun h _ => h)
theorem RdU.form {w : World} {v : Value} {ts : List Nat} (h : RdU w v ts) : ∃ A c, v = .slice A ts.length c ∧ ts.length ≤ c := SlAt.form h
theorem RdU.at_ {w : World} {A : Option Addr} {k c : Nat} {ts : List Nat} (h : RdU w (.slice A k c) ts) (j : Nat) (hj : j < ts.length) : ∃ ad, A = some ad ∧ w.cell? (ad.add j) = some (n64 ts[j]) ∧ U64 ts[j] := by
  obtain ⟨ad, cs, ha, -, hr, hc, hu⟩ := SlAt.row h j hj
  subst hc
  have := hr.c0
  rw [Nat.mul_one] at this
  exact ⟨ad, ha, this, hu⟩
def u64sRd : Rd 82 (List Int) := sliceRd u64Rd _ Try.underlying82 (by kernel_rfl)
def wayRd : Rd 80 (Int × Unit) := structRd _ Try.underlying80 (consFds u64Rd rfl (nilFds _)) (by kernel_rfl)
def waysRd : Rd 77 (List (Int × Unit)) := sliceRd wayRd _ Try.underlying77 (by kernel_rfl)
theorem sum_ones {α : Type} (l : List α) : (l.map fun _ => 1).sum = l.length := by
  induction l with
  | nil => rfl
  | cons a r ih => simp only [List.map_cons, List.sum_cons, List.length_cons, ih]; omega
section
variable {H : Type} {enc : TypeId × Value → H} {W : World} {base : Nat} {sp : Nat → Bool} {held : Bool} {a : Option Addr} {len cap : Nat} {d : DataW H} {p : List MemPlace}
theorem open_u64s (h0 : DataW.Trod enc Try.prog W base sp held 82 (.slice a len cap) d p) : ∃ ts : List Nat, RdU W (.slice a len cap) ts ∧ ts.length ≤ Rows.uptoBulk d := by
  obtain ⟨raw, ⟨v, hv, hs⟩, hb⟩ := u64sRd.open_ h0
  obtain rfl : Value.slice a len cap = v := by simpa [Value.cells] using hv
  refine ⟨raw.map Int.toNat, hs.map _ (fun cs y hy => ?_), ?_⟩
  · obtain ⟨rfl, hw⟩ := hy
    have := u64_nat hw
    exact ⟨by rw [n64, ← this.1], this.2⟩
  · have : u64sRd.size raw = raw.length + 1 := by
      show (raw.map fun _ => 1).sum + 1 = _
      rw [sum_ones]
    rw [List.length_map]
    omega
theorem open_ways (h0 : DataW.Trod enc Try.prog W base sp held 77 (.slice a len cap) d p) : ∃ ts : List Nat, RdU W (.slice a len cap) ts ∧ ts.length ≤ Rows.uptoBulk d := by
  obtain ⟨raw, ⟨v, hv, hs⟩, hb⟩ := waysRd.open_ h0
  obtain rfl : Value.slice a len cap = v := by simpa [Value.cells] using hv
  refine ⟨raw.map fun x => x.1.toNat, hs.map _ (fun cs y hy => ?_), ?_⟩
  · obtain ⟨c1, c2, rfl, ⟨rfl, hw⟩, h2⟩ := hy
    obtain rfl : c2 = [] := h2
    have := u64_nat hw
    exact ⟨by rw [n64, ← this.1]; rfl, this.2⟩
  · have : waysRd.size raw = raw.length + 1 := by
      show (raw.map fun _ => 1 + 0).sum + 1 = _
      rw [sum_ones]
    rw [List.length_map]
    omega
end
set_option maxHeartbeats 102400000 in
theorem travels_walk {w : World} {s : Int} {ti sq li fr tg : Nat} {v wv : Value} {xs : List UInt8} {nw : Bool} {ts : List Nat} (h : RdB w v xs) (hl : xs.length ≤ 10000000) (hts : RdU w wv ts) (htl : ts.length ≤ 10000000) (h1 : U64 ti) (h2 : U64 sq) (h3 : U64 li) (h4 : U64 fr) (h5 : U64 tg) :
    Calls Try.prog 10 #[frV s ti sq li v, n64 fr, n64 tg, .bool nw, wv] w (TrueP w) := by
  obtain ⟨xA, xc, rfl, -⟩ := h.form
  obtain ⟨tA, tc, rfl, -⟩ := hts.form
  obtain ⟨N, hN⟩ : ∃ N, ts.length = N := ⟨_, rfl⟩
  rw [hN] at hts htl ⊢
  obtain ⟨w1, hw1⟩ : ∃ w1, w.alloc (.cells #[.int .i64 s, n64 ti, n64 sq, n64 li, .slice xA xs.length xc] 47) = w1 := ⟨_, rfl⟩
  have k1 : KpN w w1 := by rw [← hw1]; exact (Kp.refl _ w).alloc _
  have hF1 : CellsAt w1 w.heap.size [.int .i64 s, n64 ti, n64 sq, n64 li, .slice xA xs.length xc] := by
    rw [← hw1]
    exact CellsAt.new w [.int .i64 s, n64 ti, n64 sq, n64 li, .slice xA xs.length xc] 47
  have hz1 : w1.heap.size = w.heap.size + 1 := by rw [← hw1]; simp
  have hlf : ∀ W, KpN w1 W → (Instr.loadAt 47 (.pointer (some ⟨w.heap.size, 0, none⟩))).run Try.prog W = .ok (frV s ti sq li (.slice xA xs.length xc)) W := fun W k => run_loadAt_rowat (P := Try.prog) (hF1.keep (by omega) k (fun x => x)).1 Try.underlying47 rfl (by kernel_rfl)
  have hlen : ∀ W, KpN w1 W → W.cell? ⟨w.heap.size, 4, none⟩ = some (.slice xA xs.length xc) := fun W k => (hF1.keep (by omega) k (fun x => x)).at_ 4 rfl
  have hsm := smallT_c w1
  have hwr : ∀ W, KpN w1 W → Calls Try.prog 19 #[frV s ti sq li (.slice xA xs.length xc), n64 fr, n64 tg, .bool nw] W (WrapO s ti sq li fr tg xs nw W) := fun W k => wrapO_c (h.keepN (k1.thenN k)) (by omega) h1 h2 h3 h4 h5
  have HH := Lib.hid (And.intro hw1 (And.intro hlf (And.intro k1 (And.intro h (And.intro (show xs.length ≤ 100000000 by omega) (And.intro hlen (And.intro hN (And.intro hts hz1))))))))
  have hwF : wrapF s ti sq li fr tg xs = if fitsW s ti sq li = true ∧ fr ≤ maxN ∧ tg ≤ maxN then (if 512 < xs.length then 81 else 0) else 1 := rfl
  have hwT := wrap_tr (s := s) (ti := ti) (sq := sq) (li := li) (fr := fr) («to» := tg) (xs := xs) (nw := nw)
  obtain ⟨EF, hEF⟩ : ∃ z, wrapF s ti sq li fr tg xs = z := ⟨_, rfl⟩
  obtain ⟨WB, hWB⟩ : ∃ z, wrapB s ti sq li fr tg xs nw = z := ⟨_, rfl⟩
  obtain ⟨WD, hWD⟩ : ∃ z, wrapD s ti sq li fr tg xs nw = z := ⟨_, rfl⟩
  unfold WrapO at hwr
  rw [hEF, hWB] at hwr
  rw [hEF] at hwF
  rw [hEF, hWB, hWD] at hwT
  have HF := Lib.hid (And.intro hwF (And.intro hwT hWD))
  have HWR := Lib.hid hwr
  obtain ⟨L, hL⟩ : ∃ L, xs.length = L := ⟨_, rfl⟩
  have HLL := Lib.hid hL
  clear hL hw1 k1 hF1 hz1 hlf hlen hwr h hl hts hN h1 h2 h3 h4 h5 hwF hwT hEF hWB hWD
  go_enter Try.func10, Try.ntmps10
  go_wp2_with (first
    | ((with_reducible show wpList _ _ _ _ _ (World.alloc w _)); rw [HH.out.1])
    | fail)
  (try rw [HH.out.1])
  refine hsm.mono ?_
  rintro e w2 ⟨rfl, k2⟩
  clear hsm
  have hW := HWR.out w2 k2
  have H2 := Lib.hid (And.intro (HH.out.2.1 w2 k2) k2)
  clear k2
  go_wp2_with (first
    | ((with_reducible show wpList _ _ _ (Oper.mk (some 29) _ _ _ _ _ :: _) _ _); refine wpl_val rfl (run_load_opv H2.out.1 rfl) ?_)
    | fail)
  refine hW.mono ?_
  rintro e w3 ⟨bv, pv, ls, rfl, ho, k3⟩
  clear hW
  obtain ⟨bA, bc, rfl, -⟩ := ho.rd.bl.form
  obtain ⟨pA, pc, rfl, -⟩ := ho.rd.pl.form
  obtain ⟨w4, hst, hx4, k4, hz4⟩ := bundle_put w3 WB bA pA WB.bl.length bc WB.pl.length pc
  have k14 := H2.out.2.thenN (k3.thenN k4)
  have hff := fits_c w4 s ti sq li xA xs.length xc
  have hz3 := k3.size
  have hz2 := H2.out.2.size
  have H4 := Lib.hid (And.intro hst (And.intro (HH.out.2.1 w4 k14) (And.intro hx4 (And.intro (ho.keepN k4) (And.intro k14 (And.intro (show w3.heap.size < w4.heap.size by omega) (show w1.heap.size ≤ w2.heap.size ∧ w2.heap.size ≤ w3.heap.size by omega)))))))
  have HX1 := Lib.hid (show w1.heap.size ≤ w3.heap.size by omega)
  (try rw [HLL.out] at hff)
  (try rw [HLL.out] at H4)
  (try rw [HLL.out])
  clear hst hx4 k4 hz4 k14 ho k3 hz3 hz2
  go_wp2_with (first
    | ((with_reducible show wpList _ _ _ (Oper.mk _ (Op.store 34 _ _) _ _ _ _ :: _) _ _); refine wpl_skip rfl (run_store_op H4.out.1 rfl rfl) ?_)
    | ((with_reducible show wpList _ _ _ (Oper.mk (some 36) _ _ _ _ _ :: _) _ _); refine wpl_val rfl (run_load_opv H4.out.2.1 rfl) ?_)
    | fail)
  refine hff.mono ?_
  rintro e w5 ⟨rfl, k5⟩
  clear hff
  have k15 := H4.out.2.2.2.2.1.thenN k5
  have c5 := HH.out.2.2.2.2.2.1 w5 k15
  rw [HLL.out] at c5
  by_cases hfit : fitsW s ti sq li = true
  · by_cases hfr : fr ≤ 281474976710655
    · by_cases hto : tg ≤ 281474976710655
      · have i1 : (fr : Int) ≤ 281474976710655 := by omega
        have i2 : (tg : Int) ≤ 281474976710655 := by omega
        have hE := HF.out.1
        rw [if_pos ⟨hfit, hfr, hto⟩, HLL.out] at hE
        by_cases h512 : 512 < L
        · have i3 : (512 : Int) < (L : Int) := by omega
          rw [if_pos h512] at hE
          have HK := Lib.hid k15
          subst hE
          rw [hfit]
          clear k15 k5 hfit hfr hto h512
          go_wp2_with fail
          go_ret
          exact ⟨rfl, HH.out.2.2.1.thenN HK.out⟩
        · have i3 : ¬ (512 : Int) < (L : Int) := by omega
          rw [if_neg h512] at hE
          subst hE
          obtain ⟨hwb, hok, hs0, hs8⟩ := HF.out.2.1 rfl
          obtain ⟨m, rfl⟩ := Int.eq_ofNat_of_zero_le hs0
          have HO := Lib.hid (show OkW (wrapD (m : Int) ti sq li fr tg xs nw) ∧ 0 ≤ (m : Int) ∧ (m : Int) < 8 by rw [HF.out.2.2]; exact ⟨hok, hs0, hs8⟩)
          have hv5 : valE WB = 0 := by rw [hwb]; exact trB_val hok (by omega) (by omega)
          have hval : Calls Try.prog 25 #[bdV WB (.slice bA WB.bl.length bc) (.slice pA WB.pl.length pc)] w5 fun e w' => e = .returned (.int .i64 0) ∧ KpN w5 w' := by
            have := valid_c (H4.out.2.2.2.1.rd.keepN k5) (by have := bdSize_laid WB hv5; omega)
            rw [hv5] at this
            exact this
          have hlt4 := H4.out.2.2.2.2.2.1
          have hz5 := k5.size
          have hx5 := H4.out.2.2.1.keep hlt4 k5 (fun x => x)
          have hl5 := bd_load w5 w3.heap.size hx5
          have H5 := Lib.hid (And.intro hl5 (And.intro hx5 (And.intro (H4.out.2.2.2.1.keepN k5) (And.intro k15 (show w3.heap.size < w5.heap.size by omega)))))
          have HB0 := Lib.hid (show WB = trB (wrapD (m : Int) ti sq li fr tg xs nw) 0 0 by rw [HF.out.2.2]; exact hwb)
          rw [hfit]
          clear hwb hok hs0 hs8 hv5 hlt4 hz5 hx5 hl5 k5 k15 hfit hfr hto h512
          go_wp2_with (first
            | ((with_reducible show wpList _ _ _ (Oper.mk (some 59) _ _ _ _ _ :: _) _ _); refine wpl_vg rfl (run_load_opv H5.out.1 rfl) ?_)
            | fail)
          refine hval.mono ?_
          rintro e w6 ⟨rfl, k6⟩
          clear hval i1 i2 i3 c5
          have H6 := Lib.hid (And.intro (H5.out.2.1.keep H5.out.2.2.2.2 k6 (fun x => x)) (And.intro (H5.out.2.2.1.keepN k6) (And.intro (H5.out.2.2.2.1.thenN k6) (show w3.heap.size < w6.heap.size by have := k6.size; have := H5.out.2.2.2.2; omega))))
          clear k6
          go_wp2_with fail
          go_loopw [14] (fun i wr => ∃ (q n a : Nat) (bv pv : Value) (ls : List (Value × Blk)), i = .int .i64 q ∧ q ≤ N ∧ n ≤ 8 ∧ a ≤ mxN ∧ CellsAt wr w3.heap.size (bdC (trB (wrapD (m : Int) ti sq li fr tg xs nw) n a) bv pv) ∧ OwBd wr 37 (fun i => w1.heap.size ≤ i ∧ i ≠ w3.heap.size) bv pv (trB (wrapD (m : Int) ti sq li fr tg xs nw) n a) ls ∧ KpN w1 wr ∧ w3.heap.size < wr.heap.size) (fun i _ => N - (intOf i).toNat)
          case atStart => exact ⟨0, 0, 0, .slice bA WB.bl.length bc, .slice pA WB.pl.length pc, ls, rfl, Nat.zero_le _, by omega, by omega, by rw [← HB0.out]; exact H6.out.1, by rw [← HB0.out]; exact H6.out.2.1.wide (fun i _ hi => ⟨by have := hi.1; have := H4.out.2.2.2.2.2.2; omega, by have := hi.2; omega⟩), H6.out.2.2.1, H6.out.2.2.2⟩
          case round =>
            obtain ⟨q, n, a, bv, pv, ls, rfl, hq, hn, ha, hx, ho, kr, hltX⟩ := hrel
            by_cases hlt : q < N
            · obtain ⟨B, hB⟩ : ∃ B, trB (wrapD (m : Int) ti sq li fr tg xs nw) n a = B := ⟨_, rfl⟩
              have hhop := trB_hop HO.out.1 hn ha
              have hage := fun t => trB_age (t := t) HO.out.1 hn ha
              have hv := trB_val HO.out.1 hn ha
              rw [hB] at hx ho hhop hv
              rw [hB] at hage
              have hsz : bdSize B ≤ 10000000 := by have := bdSize_laid B hv; omega
              obtain ⟨bA, bc, rfl, -⟩ := ho.rd.bl.form
              obtain ⟨pA, pc, rfl, -⟩ := ho.rd.pl.form
              have hlx := bd_load wr w3.heap.size hx
              obtain ⟨⟨C, E⟩, hCE⟩ : ∃ z, chV B (fstK B.bl 10) hopBad hopNew = z := ⟨_, rfl⟩
              have hH : Calls Try.prog 32 #[bdV B (.slice bA B.bl.length bc) (.slice pA B.pl.length pc)] wr fun e w' => ∃ bv pv ls, e = .returned (.tuple #[bdV C bv pv, .int .i64 E]) ∧ OwBd w' 37 (Iv wr.heap.size w'.heap.size) bv pv C ls ∧ KpN wr w' := by
                have := hopping_c ho.rd hsz
                unfold ChP at this
                rw [hCE] at this
                exact this
              rw [hCE] at hhop
              have HR1 : (E = 0 ∧ ∃ n2 a2, n2 ≤ 8 ∧ a2 ≤ mxN ∧ C = trB (wrapD (m : Int) ti sq li fr tg xs nw) n2 a2) ∨ E = 6 := by
                by_cases h8 : n = 8
                · rw [if_pos h8] at hhop
                  injection hhop with e1 e2
                  exact .inr e2
                · rw [if_neg h8] at hhop
                  injection hhop with e1 e2
                  exact .inl ⟨e2, n + 1, a, by omega, ha, e1⟩
              have hqt : q < ts.length := by rw [HH.out.2.2.2.2.2.2.1]; exact hlt
              obtain ⟨ad, rfl, hct, htu⟩ := (HH.out.2.2.2.2.2.2.2.1.keepN (HH.out.2.2.1.thenN kr)).at_ q hqt
              obtain ⟨t, ht⟩ : ∃ t, ts[q] = t := ⟨_, rfl⟩
              rw [ht] at hct htu
              have HN := Lib.hid (And.intro hn (And.intro ha hB))
              have hon := ho.wide (G := fun i => w1.heap.size ≤ i ∧ i ≠ w3.heap.size ∧ i < wr.heap.size) (fun i hi hh => ⟨hh.1, hh.2, hi⟩)
              have HP := Lib.hid (And.intro hlx (And.intro hx (And.intro hon (And.intro kr (And.intro hltX (And.intro hct (And.intro htu (And.intro (hage t) hsz))))))))
              have HRR := Lib.hid HR1
              clear hhop hage hv hsz hlx hCE hqt ht hB hn ha hx ho hon kr hltX hct htu HR1
              go_wp2_with (first
                | ((with_reducible show wpList _ _ _ (Oper.mk (some 70) _ _ _ _ _ :: _) _ _); refine wpl_val rfl (run_load_opv HP.out.1 rfl) ?_)
                | fail)
              refine hH.mono ?_
              rintro e w7 ⟨cv, dv, l7, rfl, ho7, k7⟩
              clear hH
              obtain ⟨cA, cc, rfl, -⟩ := ho7.rd.bl.form
              obtain ⟨dA, dc, rfl, -⟩ := ho7.rd.pl.form
              obtain ⟨w8, hst, hx8, k8, hz8⟩ := bundle_put w7 C cA dA C.bl.length cc C.pl.length dc
              have hz7 := k7.size
              have k78 := k7.thenN k8
              have ct8 := (k78.cell (World.block_lt_of_cell? wr _ HP.out.2.2.2.2.2.1) (fun x => x)).trans HP.out.2.2.2.2.2.1
              have hltX := HP.out.2.2.2.2.1
              have H8 := Lib.hid (And.intro hst (And.intro hx8 (And.intro (ho7.keepN k8) (And.intro k78 (And.intro (HP.out.2.1.keep hltX k78 (fun x => x)) (show w3.heap.size < w7.heap.size ∧ w7.heap.size < w8.heap.size ∧ wr.heap.size ≤ w7.heap.size ∧ w8.heap.size = w7.heap.size + 1 ∧ w7.heap.size = w7.heap.size by refine ⟨?_, ?_, ?_, ?_, ?_⟩ <;> omega))))))
              clear hst hx8 hz8 ho7 k7 k8 hz7 k78 hltX
              by_cases htz : 0 < t
              · have htz' : (0 : Int) < (t : Int) := by omega
                have hlt' : (q : Int) < (N : Int) := by omega
                go_wp2_with (first
                  | ((with_reducible show wpList _ _ _ (Oper.mk _ (Op.store 34 _ _) _ _ _ _ :: _) _ _); refine wpl_skip rfl (run_store_op H8.out.1 rfl rfl) ?_)
                  | fail)
                refine rg_begin 10 (fun i => w8.heap.size ≤ i) (by kernel_rfl) (fun w9 d9 => ?_)
                obtain ⟨hzA, hzB, hzC, hzD, hzE⟩ := H8.out.2.2.2.2.2
                have hz9 := d9.size
                have hx9 := H8.out.2.2.2.2.1.keep (by omega) d9 (fun x => x)
                have hy9 := H8.out.2.1.keep (by omega) d9 (fun x => x)
                have ct9 := (d9.cell (World.block_lt_of_cell? w8 _ ct8) (fun x => x)).trans ct8
                have hob9 := HP.out.2.2.1.keepN (H8.out.2.2.2.1.thenN d9)
                obtain ⟨⟨C2, E2⟩, hCE2⟩ : ∃ z, chV B (fstK B.bl 7) (ageBad t) (ageNew t) = z := ⟨_, rfl⟩
                have hAg : Calls Try.prog 34 #[bdV B (.slice bA B.bl.length bc) (.slice pA B.pl.length pc), n64 t] w9 fun e w' => ∃ bv pv ls, e = .returned (.tuple #[bdV C2 bv pv, .int .i64 E2]) ∧ OwBd w' 37 (Iv w9.heap.size w'.heap.size) bv pv C2 ls ∧ KpN w9 w' := by
                  have := aging_c HP.out.2.2.2.2.2.2.1 hob9.rd HP.out.2.2.2.2.2.2.2.2
                  unfold ChP at this
                  rw [hCE2] at this
                  exact this
                refine rg_read 0 (d := (some 81)) (v := bdV B (.slice bA B.bl.length bc) (.slice pA B.pl.length pc)) (by decide) (by kernel_rfl) (by kernel_rfl) rfl rfl (by kernel_rfl) (by kernel_rfl) (by kernel_rfl) (fun _ _ _ h => h) rfl (fun W hW => by exact run_load_op (hx9.keep (by omega) hW (fun x => by omega)).1 rfl Try.underlying34 rfl (by kernel_rfl)) ?_
                conv => arg 8; simp only [Act.put, List.setIfInBounds_toArray, List.set_cons_zero, List.set_cons_succ]
                refine rg_take 1 (d := (some 82)) (v := .slice (some ad) N tc) (by decide) rfl rfl (by kernel_rfl) (by kernel_rfl) (by kernel_rfl) (fun _ _ _ h => h) rfl (fun W => rfl) ?_
                conv => arg 8; simp only [Act.put, List.setIfInBounds_toArray, List.set_cons_zero, List.set_cons_succ]
                refine rg_take 2 (d := (some 83)) (v := .int .i64 (q : Int)) (by decide) rfl rfl (by kernel_rfl) (by kernel_rfl) (by kernel_rfl) (fun _ _ _ h => h) rfl (fun W => rfl) ?_
                conv => arg 8; simp only [Act.put, List.setIfInBounds_toArray, List.set_cons_zero, List.set_cons_succ]
                refine rg_take 3 (d := (some 84)) (v := .pointer (some (ad.add q))) (by decide) rfl rfl (by kernel_rfl) (by kernel_rfl) (by kernel_rfl) (fun _ _ _ h => h) rfl (fun W => by go_simp) ?_
                conv => arg 8; simp only [Act.put, List.setIfInBounds_toArray, List.set_cons_zero, List.set_cons_succ]
                refine rg_take 4 (d := (some 85)) (v := .pointer (some (ad.add q))) (by decide) rfl rfl (by kernel_rfl) (by kernel_rfl) (by kernel_rfl) (fun _ _ _ h => h) rfl (fun W => by go_simp) ?_
                conv => arg 8; simp only [Act.put, List.setIfInBounds_toArray, List.set_cons_zero, List.set_cons_succ]
                refine rg_read 5 (d := (some 86)) (v := n64 t) (by decide) (by kernel_rfl) (by kernel_rfl) rfl rfl (by kernel_rfl) (by kernel_rfl) (by kernel_rfl) (fun _ _ _ h => h) rfl (fun W hW => by have hc := (fun W hW => (hW.cell (World.block_lt_of_cell? w9 _ ct9) (fun x => by have := World.block_lt_of_cell? w8 _ ct8; omega)).trans ct9) W hW; go_simp) ?_
                conv => arg 8; simp only [Act.put, List.setIfInBounds_toArray, List.set_cons_zero, List.set_cons_succ]
                refine rg_call 6 (d := (some 87)) (by kernel_rfl) (hAg) rfl rfl (by kernel_rfl) rfl rfl ?_
                rintro e wx ⟨gv, hv, l9, rfl, ho9, kx⟩
                refine ⟨_, rfl, kx.mono (fun _ _ x => x.elim), ?_⟩
                conv => arg 8; simp only [Act.put, List.setIfInBounds_toArray, List.set_cons_zero, List.set_cons_succ]
                obtain ⟨gA, gc, rfl, -⟩ := ho9.rd.bl.form
                obtain ⟨hA, hc, rfl, -⟩ := ho9.rd.pl.form
                obtain ⟨wz, hst, hyz, kz, hzz⟩ := box_store (hy9.keep (by omega) kx (fun x => x)) 34 #[n64 C2.fl, n64 C2.e0, n64 C2.e1, n64 C2.e2, n64 C2.e3, n64 C2.e4, n64 C2.e5, n64 C2.ti, n64 C2.sq, n64 C2.li, .slice gA C2.bl.length gc, .slice hA C2.pl.length hc] rfl (by kernel_rfl) (by kernel_rfl)
                refine rg_take 7 (d := (some 80)) (v := .tuple #[bdV C2 (.slice gA C2.bl.length gc) (.slice hA C2.pl.length hc), .int .i64 E2]) (by decide) rfl rfl (by kernel_rfl) (by kernel_rfl) (by kernel_rfl) (fun _ _ _ h => h) rfl (fun W => rfl) ?_
                conv => arg 8; simp only [Act.put, List.setIfInBounds_toArray, List.set_cons_zero, List.set_cons_succ]
                refine rg_take 8 (d := (some 88)) (v := bdV C2 (.slice gA C2.bl.length gc) (.slice hA C2.pl.length hc)) (by decide) rfl rfl (by kernel_rfl) (by kernel_rfl) (by kernel_rfl) (fun _ _ _ h => h) rfl (fun W => by go_simp) ?_
                conv => arg 8; simp only [Act.put, List.setIfInBounds_toArray, List.set_cons_zero, List.set_cons_succ]
                refine rg_take 9 (d := (some 89)) (v := .int .i64 E2) (by decide) rfl rfl (by kernel_rfl) (by kernel_rfl) (by kernel_rfl) (fun _ _ _ h => h) rfl (fun W => by go_simp) ?_
                conv => arg 8; simp only [Act.put, List.setIfInBounds_toArray, List.set_cons_zero, List.set_cons_succ]
                refine rg_lastS (G := fun _ => True) (wz) (d := none) rfl rfl (by kernel_rfl) rfl (run_store_op hst rfl rfl) (by kernel_rfl) ?_
                conv => arg 8; simp only [Act.put, List.setIfInBounds_toArray, List.set_cons_zero, List.set_cons_succ]
                refine rg_take 11 (d := (some 16)) (v := .int .i64 E2) (by decide) rfl rfl (by kernel_rfl) (by kernel_rfl) (by kernel_rfl) (fun _ _ _ h => h) rfl (fun W => rfl) ?_
                conv => arg 8; simp only [Act.put, List.setIfInBounds_toArray, List.set_cons_zero, List.set_cons_succ]
                refine rg_done (by kernel_rfl) ?_
                have hage := HP.out.2.2.2.2.2.2.2.1
                rw [hCE2] at hage
                have HR : (E2 = 0 ∧ ∃ n2 a2, n2 ≤ 8 ∧ a2 ≤ mxN ∧ C2 = trB (wrapD (m : Int) ti sq li fr tg xs nw) n2 a2) ∨ E2 = 6 := by
                  by_cases hb : mxN - a < t
                  · rw [if_pos hb] at hage
                    injection hage with e1 e2
                    exact .inr e2
                  · rw [if_neg hb] at hage
                    injection hage with e1 e2
                    exact .inl ⟨e2, n, a + t, HN.out.1, by have := HN.out.2.1; omega, e1⟩
                have hzx := kx.size
                have hXz := (hx9.keep (by omega) kx (fun x => x)).keep (by omega) kz (fun e => by omega)
                have kwz := (HP.out.2.2.2.1.thenN (H8.out.2.2.2.1.thenN (d9.thenN kx))).fresh kz (fun i e => by have := HX1.out; omega)
                have hoz := ((ho9.keep kz (fun i hi e => by have := hi.1; omega)).wide (G := fun i => w1.heap.size ≤ i ∧ i ≠ w3.heap.size) (fun i _ hi => ⟨by have := hi.1; have := HX1.out; omega, by have := hi.1; omega⟩))
                have hobz := ((hob9.keepN kx).keep kz (fun i hi e => by have := hi.2.2; omega)).wide (G := fun i => w1.heap.size ≤ i ∧ i ≠ w3.heap.size) (fun i _ hi => ⟨hi.1, hi.2.1⟩)
                have HZ := Lib.hid (And.intro hyz (And.intro hoz (And.intro hXz (And.intro hobz (And.intro kwz (show w3.heap.size < wz.heap.size by omega))))))
                clear hage hCE2 hst hyz kz hzz hzx hXz kwz hoz hobz ho9 kx hAg hob9 ct9 hy9 hx9 hz9 hzA hzB hzC hzD hzE d9 ct8 htz htz'
                rcases HR with ⟨hE0, n2, a2, hn2, ha2, hC⟩ | hE6
                · subst hE0
                  obtain ⟨wt, hst, hxt, kt, hzt⟩ := box_store HZ.out.2.2.1 34 #[n64 C2.fl, n64 C2.e0, n64 C2.e1, n64 C2.e2, n64 C2.e3, n64 C2.e4, n64 C2.e5, n64 C2.ti, n64 C2.sq, n64 C2.li, .slice gA C2.bl.length gc, .slice hA C2.pl.length hc] rfl (by kernel_rfl) (by kernel_rfl)
                  have hlz := bd_load wz w7.heap.size HZ.out.1
                  have hot := HZ.out.2.1.keep kt (fun i hi e => hi.2 e)
                  have k1t := HZ.out.2.2.2.2.1.fresh kt (fun i e => by have := HX1.out; omega)
                  have HS := Lib.hid (And.intro hst hlz)
                  have HT := Lib.hid (And.intro hxt (And.intro hot (And.intro k1t (And.intro (show w3.heap.size < wt.heap.size by have := HZ.out.2.2.2.2.2; omega) (And.intro hn2 (And.intro ha2 hC.symm))))))
                  obtain ⟨B2, hB2⟩ : ∃ B2, C2 = B2 := ⟨_, rfl⟩
                  rw [hB2] at HT HS
                  clear hst hxt kt hzt hlz hot k1t hn2 ha2 hC hB2
                  obtain ⟨hx, ho, kw, hltX, hn2, ha2, hB2⟩ := HT.out
                  have hv2 : valE B2 = 0 := by rw [← hB2]; exact trB_val HO.out.1 hn2 ha2
                  have hs2 : bdSize B2 ≤ 10000000 := by have := bdSize_laid B2 hv2; omega
                  have hle2 := (valE_zero hv2).2
                  obtain ⟨hoE, hoF⟩ : opE B2 = 0 ∧ opF B2 = ⟨m, ti, sq, li, xs, fr, nw⟩ := by rw [← hB2]; exact tr_open HO.out.1 HO.out.2.1 HO.out.2.2 hn2 ha2
                  have hlx := bd_load wt w3.heap.size hx
                  have hen : Calls Try.prog 26 #[bdV B2 (.slice gA B2.bl.length gc) (.slice hA B2.pl.length hc)] wt fun e w' => ∃ v, e = .returned (.tuple #[v, .int .i64 0]) ∧ OwB w' 5 (Iv wt.heap.size w'.heap.size) v (laid B2) ∧ KpN wt w' := by
                    have := encode_c ho.rd hs2
                    unfold EncP at this
                    rw [enc_laid hv2, hv2] at this
                    exact this
                  have HV := Lib.hid (And.intro hv2 (And.intro hs2 (And.intro hle2 (And.intro hoE hoF))))
                  have HX := Lib.hid hlx
                  clear hx ho kw hltX hn2 ha2 hB2 hv2 hs2 hle2 hoE hoF hlx
                  go_wp2_with (first
                    | ((with_reducible show wpList _ _ _ (Oper.mk (some 92) _ _ _ _ _ :: _) _ _); refine wpl_val rfl (run_load_opv HS.out.2 rfl) ?_)
                    | ((with_reducible show wpList _ _ _ (Oper.mk _ (Op.store 34 _ _) _ _ _ _ :: _) _ wz); refine wpl_skip rfl (run_store_op HS.out.1 rfl rfl) ?_)
                    | ((with_reducible show wpList _ _ _ (Oper.mk (some 96) _ _ _ _ _ :: _) _ _); refine wpl_val rfl (run_load_opv HX.out rfl) ?_)
                    | fail)
                  refine hen.mono ?_
                  rintro e wa ⟨v, rfl, ov, ka⟩
                  clear hen
                  have hde : Calls Try.prog 23 #[v] wa fun e w' => ∃ bv pv ls, e = .returned (.tuple #[bdV B2 bv pv, .int .i64 0]) ∧ OwBd w' 37 (Iv wa.heap.size w'.heap.size) bv pv B2 ls ∧ KpN wa w' := by
                    have := decode_c ov.readsB (by have := HV.out.2.2.1; omega)
                    unfold DecP DecQ at this
                    rw [(dec_back HV.out.1).1, (dec_back HV.out.1).2] at this
                    exact this
                  have HA := Lib.hid ka
                  clear ov ka
                  go_wp2_with fail
                  refine hde.mono ?_
                  rintro e wb ⟨bv, pv, l3, rfl, ho3, kb⟩
                  clear hde
                  obtain ⟨eA, ec, rfl, -⟩ := ho3.rd.bl.form
                  obtain ⟨fA, fc, rfl, -⟩ := ho3.rd.pl.form
                  obtain ⟨wc, hst, hxc, kc, hzc⟩ := bundle_put wb B2 eA fA B2.bl.length ec B2.pl.length fc
                  have hlc := bd_loadN hxc (by omega) (Kp.refl _ _)
                  obtain ⟨hv2, hs2, hle2, hoE, hoF⟩ := HV.out
                  have hop : Calls Try.prog 29 #[bdV B2 (.slice eA B2.bl.length ec) (.slice fA B2.pl.length fc)] wc fun e w' => ∃ u, e = .returned (.tuple #[.agg #[.int .i64 (m : Int), n64 ti, n64 sq, n64 li, u], n64 fr, .bool nw, .int .i64 0]) ∧ OwB w' 5 (Iv wc.heap.size w'.heap.size) u xs ∧ KpN wc w' := by
                    have := open_c (ho3.rd.keepN kc) hs2
                    unfold OpenP at this
                    rw [hoE, hoF] at this
                    exact this
                  have HC := Lib.hid (And.intro hst (And.intro hlc (And.intro hxc (And.intro (ho3.keepN kc) (And.intro (HA.out.thenN (kb.thenN kc)) (And.intro (show wt.heap.size ≤ wa.heap.size from HA.out.size) (show wb.heap.size < wc.heap.size ∧ wa.heap.size ≤ wb.heap.size by have := kb.size; omega)))))))
                  clear hst hlc hxc hzc ho3 kb kc hv2 hs2 hle2 hoE hoF
                  go_wp2_with (first
                    | ((with_reducible show wpList _ _ _ (Oper.mk _ (Op.store 34 _ _) _ _ _ _ :: _) _ _); refine wpl_skip rfl (run_store_op HC.out.1 rfl rfl) ?_)
                    | ((with_reducible show wpList _ _ _ (Oper.mk (some 112) _ _ _ _ _ :: _) _ _); refine wpl_val rfl (run_load_opv HC.out.2.1 rfl) ?_)
                    | fail)
                  refine hop.mono ?_
                  rintro e wd ⟨u, rfl, od, kd⟩
                  clear hop
                  obtain ⟨uA, uc, rfl, -⟩ := od.readsB.form
                  obtain ⟨we, hwe⟩ : ∃ we, wd.alloc (.cells #[.int .i64 (m : Int), n64 ti, n64 sq, n64 li, .slice uA xs.length uc] 47) = we := ⟨_, rfl⟩
                  have ke : KpN wd we := by rw [← hwe]; exact (Kp.refl _ wd).alloc _
                  have hFe : CellsAt we wd.heap.size [.int .i64 (m : Int), n64 ti, n64 sq, n64 li, .slice uA xs.length uc] := by
                    rw [← hwe]
                    exact CellsAt.new wd [.int .i64 (m : Int), n64 ti, n64 sq, n64 li, .slice uA xs.length uc] 47
                  have hfe := run_loadAt_rowat (P := Try.prog) hFe.1 Try.underlying47 rfl (by kernel_rfl)
                  have kce := kd.thenN ke
                  have k1e := HT.out.2.2.1.thenN (HC.out.2.2.2.2.1.thenN kce)
                  have hif := isFrame_c (s := m) (ti := ti) (sq := sq) (li := li) (od.readsB.keepN ke) (HH.out.2.2.2.1.keepN (HH.out.2.2.1.thenN k1e)) HH.out.2.2.2.2.1
                  have HE := Lib.hid (And.intro hwe (And.intro hfe (And.intro (HH.out.2.1 we k1e) (And.intro kce k1e))))
                  clear hwe ke hFe hfe kce k1e od kd
                  go_wp2_with (first
                    | ((with_reducible show wpList _ _ _ _ _ (World.alloc wd _)); rw [HE.out.1])
                    | ((with_reducible show wpList _ _ _ (Oper.mk (some 121) _ _ _ _ _ :: _) _ _); refine wpl_vg rfl (run_load_opv HE.out.2.1 rfl) ?_)
                    | ((with_reducible show wpList _ _ _ (Oper.mk (some 122) _ _ _ _ _ :: _) _ _); refine wpl_vg rfl (run_load_opv HE.out.2.2.1 rfl) ?_)
                    | fail)
                  refine hif.mono ?_
                  rintro e wf ⟨rfl, kf⟩
                  clear hif
                  have kcf := HE.out.2.2.2.1.thenN kf
                  obtain ⟨hzA, hzB, hzC⟩ := HC.out.2.2.2.2.2
                  have hzf := kcf.size
                  have hltX := HT.out.2.2.2.1
                  have hlf := bd_loadN HC.out.2.2.1 hzB kcf
                  have hxf := HT.out.1.keep hltX (HC.out.2.2.2.2.1.thenN kcf) (fun x => x)
                  obtain ⟨wg, hst, hxg, kg, hzg⟩ := box_store hxf 34 #[n64 B2.fl, n64 B2.e0, n64 B2.e1, n64 B2.e2, n64 B2.e3, n64 B2.e4, n64 B2.e5, n64 B2.ti, n64 B2.sq, n64 B2.li, .slice eA B2.bl.length ec, .slice fA B2.pl.length fc] rfl (by kernel_rfl) (by kernel_rfl)
                  have hog := ((HC.out.2.2.2.1.keepN kcf).keep kg (fun i hi e => by have := hi.1; omega)).wide (G := fun i => w1.heap.size ≤ i ∧ i ≠ w3.heap.size) (fun i _ hi => ⟨by have := hi.1; have := HX1.out; omega, by have := hi.1; omega⟩)
                  have k1g := (HE.out.2.2.2.2.thenN kf).fresh kg (fun i e => by have := HX1.out; omega)
                  have HG := Lib.hid (And.intro hst (And.intro hlf (And.intro hxg (And.intro hog (And.intro k1g (show w3.heap.size < wg.heap.size by omega))))))
                  clear hst hlf hxg hog k1g kg hzg hxf hzA hzB hzC hzf hltX kcf kf
                  go_wp2_with (first
                    | ((with_reducible show wpList _ _ _ (Oper.mk (some 136) _ _ _ _ _ :: _) _ _); refine wpl_val rfl (run_load_opv HG.out.2.1 rfl) ?_)
                    | ((with_reducible show wpList _ _ _ (Oper.mk _ (Op.store 34 _ _) _ _ _ _ :: _) _ _); refine wpl_skip rfl (run_store_op HG.out.1 rfl rfl) ?_)
                    | fail)
                  go_roundw
                  case rel => exact ⟨q + 1, n2, a2, .slice eA B2.bl.length ec, .slice fA B2.pl.length fc, l3, by go_num, by omega, HT.out.2.2.2.2.1, HT.out.2.2.2.2.2.1, by rw [HT.out.2.2.2.2.2.2]; exact HG.out.2.2.1, by rw [HT.out.2.2.2.2.2.2]; exact HG.out.2.2.2.1, HG.out.2.2.2.2.1, HG.out.2.2.2.2.2⟩
                  case measure => exact meas_up hlt
                · subst hE6
                  have HT := Lib.hid (And.intro HZ.out.2.2.1 (And.intro HZ.out.2.2.2.1 (And.intro HZ.out.2.2.2.2.1 (And.intro HZ.out.2.2.2.2.2 (And.intro HN.out.1 (And.intro HN.out.2.1 HN.out.2.2))))))
                  obtain ⟨B2, hB2⟩ : ∃ B2, B = B2 := ⟨_, rfl⟩
                  rw [hB2] at HT
                  clear hB2
                  obtain ⟨hx, ho, kw, hltX, hn2, ha2, hB2⟩ := HT.out
                  have hv2 : valE B2 = 0 := by rw [← hB2]; exact trB_val HO.out.1 hn2 ha2
                  have hs2 : bdSize B2 ≤ 10000000 := by have := bdSize_laid B2 hv2; omega
                  have hle2 := (valE_zero hv2).2
                  obtain ⟨hoE, hoF⟩ : opE B2 = 0 ∧ opF B2 = ⟨m, ti, sq, li, xs, fr, nw⟩ := by rw [← hB2]; exact tr_open HO.out.1 HO.out.2.1 HO.out.2.2 hn2 ha2
                  have hlx := bd_load wz w3.heap.size hx
                  have hen : Calls Try.prog 26 #[bdV B2 (.slice bA B2.bl.length bc) (.slice pA B2.pl.length pc)] wz fun e w' => ∃ v, e = .returned (.tuple #[v, .int .i64 0]) ∧ OwB w' 5 (Iv wz.heap.size w'.heap.size) v (laid B2) ∧ KpN wz w' := by
                    have := encode_c ho.rd hs2
                    unfold EncP at this
                    rw [enc_laid hv2, hv2] at this
                    exact this
                  have HV := Lib.hid (And.intro hv2 (And.intro hs2 (And.intro hle2 (And.intro hoE hoF))))
                  have HX := Lib.hid hlx
                  clear hx ho kw hltX hn2 ha2 hB2 hv2 hs2 hle2 hoE hoF hlx
                  go_wp2_with (first
                    | ((with_reducible show wpList _ _ _ (Oper.mk (some 96) _ _ _ _ _ :: _) _ _); refine wpl_val rfl (run_load_opv HX.out rfl) ?_)
                    | fail)
                  refine hen.mono ?_
                  rintro e wa ⟨v, rfl, ov, ka⟩
                  clear hen
                  have hde : Calls Try.prog 23 #[v] wa fun e w' => ∃ bv pv ls, e = .returned (.tuple #[bdV B2 bv pv, .int .i64 0]) ∧ OwBd w' 37 (Iv wa.heap.size w'.heap.size) bv pv B2 ls ∧ KpN wa w' := by
                    have := decode_c ov.readsB (by have := HV.out.2.2.1; omega)
                    unfold DecP DecQ at this
                    rw [(dec_back HV.out.1).1, (dec_back HV.out.1).2] at this
                    exact this
                  have HA := Lib.hid ka
                  clear ov ka
                  go_wp2_with fail
                  refine hde.mono ?_
                  rintro e wb ⟨bv, pv, l3, rfl, ho3, kb⟩
                  clear hde
                  obtain ⟨eA, ec, rfl, -⟩ := ho3.rd.bl.form
                  obtain ⟨fA, fc, rfl, -⟩ := ho3.rd.pl.form
                  obtain ⟨wc, hst, hxc, kc, hzc⟩ := bundle_put wb B2 eA fA B2.bl.length ec B2.pl.length fc
                  have hlc := bd_loadN hxc (by omega) (Kp.refl _ _)
                  obtain ⟨hv2, hs2, hle2, hoE, hoF⟩ := HV.out
                  have hop : Calls Try.prog 29 #[bdV B2 (.slice eA B2.bl.length ec) (.slice fA B2.pl.length fc)] wc fun e w' => ∃ u, e = .returned (.tuple #[.agg #[.int .i64 (m : Int), n64 ti, n64 sq, n64 li, u], n64 fr, .bool nw, .int .i64 0]) ∧ OwB w' 5 (Iv wc.heap.size w'.heap.size) u xs ∧ KpN wc w' := by
                    have := open_c (ho3.rd.keepN kc) hs2
                    unfold OpenP at this
                    rw [hoE, hoF] at this
                    exact this
                  have HC := Lib.hid (And.intro hst (And.intro hlc (And.intro hxc (And.intro (ho3.keepN kc) (And.intro (HA.out.thenN (kb.thenN kc)) (And.intro (show wz.heap.size ≤ wa.heap.size from HA.out.size) (show wb.heap.size < wc.heap.size ∧ wa.heap.size ≤ wb.heap.size by have := kb.size; omega)))))))
                  clear hst hlc hxc hzc ho3 kb kc hv2 hs2 hle2 hoE hoF
                  go_wp2_with (first
                    | ((with_reducible show wpList _ _ _ (Oper.mk _ (Op.store 34 _ _) _ _ _ _ :: _) _ _); refine wpl_skip rfl (run_store_op HC.out.1 rfl rfl) ?_)
                    | ((with_reducible show wpList _ _ _ (Oper.mk (some 112) _ _ _ _ _ :: _) _ _); refine wpl_val rfl (run_load_opv HC.out.2.1 rfl) ?_)
                    | fail)
                  refine hop.mono ?_
                  rintro e wd ⟨u, rfl, od, kd⟩
                  clear hop
                  obtain ⟨uA, uc, rfl, -⟩ := od.readsB.form
                  obtain ⟨we, hwe⟩ : ∃ we, wd.alloc (.cells #[.int .i64 (m : Int), n64 ti, n64 sq, n64 li, .slice uA xs.length uc] 47) = we := ⟨_, rfl⟩
                  have ke : KpN wd we := by rw [← hwe]; exact (Kp.refl _ wd).alloc _
                  have hFe : CellsAt we wd.heap.size [.int .i64 (m : Int), n64 ti, n64 sq, n64 li, .slice uA xs.length uc] := by
                    rw [← hwe]
                    exact CellsAt.new wd [.int .i64 (m : Int), n64 ti, n64 sq, n64 li, .slice uA xs.length uc] 47
                  have hfe := run_loadAt_rowat (P := Try.prog) hFe.1 Try.underlying47 rfl (by kernel_rfl)
                  have kce := kd.thenN ke
                  have k1e := HT.out.2.2.1.thenN (HC.out.2.2.2.2.1.thenN kce)
                  have hif := isFrame_c (s := m) (ti := ti) (sq := sq) (li := li) (od.readsB.keepN ke) (HH.out.2.2.2.1.keepN (HH.out.2.2.1.thenN k1e)) HH.out.2.2.2.2.1
                  have HE := Lib.hid (And.intro hwe (And.intro hfe (And.intro (HH.out.2.1 we k1e) (And.intro kce k1e))))
                  clear hwe ke hFe hfe kce k1e od kd
                  go_wp2_with (first
                    | ((with_reducible show wpList _ _ _ _ _ (World.alloc wd _)); rw [HE.out.1])
                    | ((with_reducible show wpList _ _ _ (Oper.mk (some 121) _ _ _ _ _ :: _) _ _); refine wpl_vg rfl (run_load_opv HE.out.2.1 rfl) ?_)
                    | ((with_reducible show wpList _ _ _ (Oper.mk (some 122) _ _ _ _ _ :: _) _ _); refine wpl_vg rfl (run_load_opv HE.out.2.2.1 rfl) ?_)
                    | fail)
                  refine hif.mono ?_
                  rintro e wf ⟨rfl, kf⟩
                  clear hif
                  have kcf := HE.out.2.2.2.1.thenN kf
                  obtain ⟨hzA, hzB, hzC⟩ := HC.out.2.2.2.2.2
                  have hzf := kcf.size
                  have hltX := HT.out.2.2.2.1
                  have hlf := bd_loadN HC.out.2.2.1 hzB kcf
                  have hxf := HT.out.1.keep hltX (HC.out.2.2.2.2.1.thenN kcf) (fun x => x)
                  obtain ⟨wg, hst, hxg, kg, hzg⟩ := box_store hxf 34 #[n64 B2.fl, n64 B2.e0, n64 B2.e1, n64 B2.e2, n64 B2.e3, n64 B2.e4, n64 B2.e5, n64 B2.ti, n64 B2.sq, n64 B2.li, .slice eA B2.bl.length ec, .slice fA B2.pl.length fc] rfl (by kernel_rfl) (by kernel_rfl)
                  have hog := ((HC.out.2.2.2.1.keepN kcf).keep kg (fun i hi e => by have := hi.1; omega)).wide (G := fun i => w1.heap.size ≤ i ∧ i ≠ w3.heap.size) (fun i _ hi => ⟨by have := hi.1; have := HX1.out; omega, by have := hi.1; omega⟩)
                  have k1g := (HE.out.2.2.2.2.thenN kf).fresh kg (fun i e => by have := HX1.out; omega)
                  have HG := Lib.hid (And.intro hst (And.intro hlf (And.intro hxg (And.intro hog (And.intro k1g (show w3.heap.size < wg.heap.size by omega))))))
                  clear hst hlf hxg hog k1g kg hzg hxf hzA hzB hzC hzf hltX kcf kf
                  go_wp2_with (first
                    | ((with_reducible show wpList _ _ _ (Oper.mk (some 136) _ _ _ _ _ :: _) _ _); refine wpl_val rfl (run_load_opv HG.out.2.1 rfl) ?_)
                    | ((with_reducible show wpList _ _ _ (Oper.mk _ (Op.store 34 _ _) _ _ _ _ :: _) _ _); refine wpl_skip rfl (run_store_op HG.out.1 rfl rfl) ?_)
                    | fail)
                  go_roundw
                  case rel => exact ⟨q + 1, n, a, .slice eA B2.bl.length ec, .slice fA B2.pl.length fc, l3, by go_num, by omega, HT.out.2.2.2.2.1, HT.out.2.2.2.2.2.1, by rw [HT.out.2.2.2.2.2.2]; exact HG.out.2.2.1, by rw [HT.out.2.2.2.2.2.2]; exact HG.out.2.2.2.1, HG.out.2.2.2.2.1, HG.out.2.2.2.2.2⟩
                  case measure => exact meas_up hlt
              · have htz' : ¬ (0 : Int) < (t : Int) := by omega
                have hlt' : (q : Int) < (N : Int) := by omega
                obtain ⟨hzA, hzB, hzC, hzD, hzE⟩ := H8.out.2.2.2.2.2
                obtain ⟨wz, hwz⟩ : ∃ wz, w8 = wz := ⟨_, rfl⟩
                have HZ := Lib.hid (And.intro H8.out.2.1 (And.intro (H8.out.2.2.1.wide (G := fun i => w1.heap.size ≤ i ∧ i ≠ w3.heap.size) (fun i _ hi => ⟨by have := hi.1; have := HP.out.2.2.2.1.size; have := HX1.out; omega, by have := hi.1; have := HP.out.2.2.2.2.1; omega⟩)) (And.intro H8.out.2.2.2.2.1 (And.intro ((HP.out.2.2.1.keepN H8.out.2.2.2.1).wide (G := fun i => w1.heap.size ≤ i ∧ i ≠ w3.heap.size) (fun i _ hi => ⟨hi.1, hi.2.1⟩)) (And.intro (HP.out.2.2.2.1.thenN H8.out.2.2.2.1) (show w3.heap.size < w8.heap.size by omega))))))
                rw [hwz] at HZ
                have HR := HRR.out
                have HS8 := Lib.hid H8.out.1
                rw [hwz] at HS8
                clear hzA hzB hzC hzD hzE htz
                rw [hwz] at ct8
                clear hwz
                rcases HR with ⟨hE0, n2, a2, hn2, ha2, hC⟩ | hE6
                · subst hE0
                  obtain ⟨wt, hst, hxt, kt, hzt⟩ := box_store HZ.out.2.2.1 34 #[n64 C.fl, n64 C.e0, n64 C.e1, n64 C.e2, n64 C.e3, n64 C.e4, n64 C.e5, n64 C.ti, n64 C.sq, n64 C.li, .slice cA C.bl.length cc, .slice dA C.pl.length dc] rfl (by kernel_rfl) (by kernel_rfl)
                  have hlz := bd_load wz w7.heap.size HZ.out.1
                  have hot := HZ.out.2.1.keep kt (fun i hi e => hi.2 e)
                  have k1t := HZ.out.2.2.2.2.1.fresh kt (fun i e => by have := HX1.out; omega)
                  have HS := Lib.hid (And.intro hst hlz)
                  have HT := Lib.hid (And.intro hxt (And.intro hot (And.intro k1t (And.intro (show w3.heap.size < wt.heap.size by have := HZ.out.2.2.2.2.2; omega) (And.intro hn2 (And.intro ha2 hC.symm))))))
                  obtain ⟨B2, hB2⟩ : ∃ B2, C = B2 := ⟨_, rfl⟩
                  rw [hB2] at HT HS
                  clear hst hxt kt hzt hlz hot k1t hn2 ha2 hC hB2
                  obtain ⟨hx, ho, kw, hltX, hn2, ha2, hB2⟩ := HT.out
                  have hv2 : valE B2 = 0 := by rw [← hB2]; exact trB_val HO.out.1 hn2 ha2
                  have hs2 : bdSize B2 ≤ 10000000 := by have := bdSize_laid B2 hv2; omega
                  have hle2 := (valE_zero hv2).2
                  obtain ⟨hoE, hoF⟩ : opE B2 = 0 ∧ opF B2 = ⟨m, ti, sq, li, xs, fr, nw⟩ := by rw [← hB2]; exact tr_open HO.out.1 HO.out.2.1 HO.out.2.2 hn2 ha2
                  have hlx := bd_load wt w3.heap.size hx
                  have hen : Calls Try.prog 26 #[bdV B2 (.slice cA B2.bl.length cc) (.slice dA B2.pl.length dc)] wt fun e w' => ∃ v, e = .returned (.tuple #[v, .int .i64 0]) ∧ OwB w' 5 (Iv wt.heap.size w'.heap.size) v (laid B2) ∧ KpN wt w' := by
                    have := encode_c ho.rd hs2
                    unfold EncP at this
                    rw [enc_laid hv2, hv2] at this
                    exact this
                  have HV := Lib.hid (And.intro hv2 (And.intro hs2 (And.intro hle2 (And.intro hoE hoF))))
                  have HX := Lib.hid hlx
                  clear hx ho kw hltX hn2 ha2 hB2 hv2 hs2 hle2 hoE hoF hlx
                  go_wp2_with (first
                    | ((with_reducible show wpList _ _ _ (Oper.mk _ (Op.store 34 _ _) _ _ _ _ :: _) _ (World.alloc w7 _)); refine wpl_skip rfl (run_store_op HS8.out rfl rfl) ?_)
                    | ((with_reducible show wpList _ _ _ (Oper.mk (some 92) _ _ _ _ _ :: _) _ _); refine wpl_val rfl (run_load_opv HS.out.2 rfl) ?_)
                    | ((with_reducible show wpList _ _ _ (Oper.mk _ (Op.store 34 _ _) _ _ _ _ :: _) _ wz); refine wpl_skip rfl (run_store_op HS.out.1 rfl rfl) ?_)
                    | ((with_reducible show wpList _ _ _ (Oper.mk (some 96) _ _ _ _ _ :: _) _ _); refine wpl_val rfl (run_load_opv HX.out rfl) ?_)
                    | fail)
                  refine hen.mono ?_
                  rintro e wa ⟨v, rfl, ov, ka⟩
                  clear hen
                  have hde : Calls Try.prog 23 #[v] wa fun e w' => ∃ bv pv ls, e = .returned (.tuple #[bdV B2 bv pv, .int .i64 0]) ∧ OwBd w' 37 (Iv wa.heap.size w'.heap.size) bv pv B2 ls ∧ KpN wa w' := by
                    have := decode_c ov.readsB (by have := HV.out.2.2.1; omega)
                    unfold DecP DecQ at this
                    rw [(dec_back HV.out.1).1, (dec_back HV.out.1).2] at this
                    exact this
                  have HA := Lib.hid ka
                  clear ov ka
                  go_wp2_with fail
                  refine hde.mono ?_
                  rintro e wb ⟨bv, pv, l3, rfl, ho3, kb⟩
                  clear hde
                  obtain ⟨eA, ec, rfl, -⟩ := ho3.rd.bl.form
                  obtain ⟨fA, fc, rfl, -⟩ := ho3.rd.pl.form
                  obtain ⟨wc, hst, hxc, kc, hzc⟩ := bundle_put wb B2 eA fA B2.bl.length ec B2.pl.length fc
                  have hlc := bd_loadN hxc (by omega) (Kp.refl _ _)
                  obtain ⟨hv2, hs2, hle2, hoE, hoF⟩ := HV.out
                  have hop : Calls Try.prog 29 #[bdV B2 (.slice eA B2.bl.length ec) (.slice fA B2.pl.length fc)] wc fun e w' => ∃ u, e = .returned (.tuple #[.agg #[.int .i64 (m : Int), n64 ti, n64 sq, n64 li, u], n64 fr, .bool nw, .int .i64 0]) ∧ OwB w' 5 (Iv wc.heap.size w'.heap.size) u xs ∧ KpN wc w' := by
                    have := open_c (ho3.rd.keepN kc) hs2
                    unfold OpenP at this
                    rw [hoE, hoF] at this
                    exact this
                  have HC := Lib.hid (And.intro hst (And.intro hlc (And.intro hxc (And.intro (ho3.keepN kc) (And.intro (HA.out.thenN (kb.thenN kc)) (And.intro (show wt.heap.size ≤ wa.heap.size from HA.out.size) (show wb.heap.size < wc.heap.size ∧ wa.heap.size ≤ wb.heap.size by have := kb.size; omega)))))))
                  clear hst hlc hxc hzc ho3 kb kc hv2 hs2 hle2 hoE hoF
                  go_wp2_with (first
                    | ((with_reducible show wpList _ _ _ (Oper.mk _ (Op.store 34 _ _) _ _ _ _ :: _) _ _); refine wpl_skip rfl (run_store_op HC.out.1 rfl rfl) ?_)
                    | ((with_reducible show wpList _ _ _ (Oper.mk (some 112) _ _ _ _ _ :: _) _ _); refine wpl_val rfl (run_load_opv HC.out.2.1 rfl) ?_)
                    | fail)
                  refine hop.mono ?_
                  rintro e wd ⟨u, rfl, od, kd⟩
                  clear hop
                  obtain ⟨uA, uc, rfl, -⟩ := od.readsB.form
                  obtain ⟨we, hwe⟩ : ∃ we, wd.alloc (.cells #[.int .i64 (m : Int), n64 ti, n64 sq, n64 li, .slice uA xs.length uc] 47) = we := ⟨_, rfl⟩
                  have ke : KpN wd we := by rw [← hwe]; exact (Kp.refl _ wd).alloc _
                  have hFe : CellsAt we wd.heap.size [.int .i64 (m : Int), n64 ti, n64 sq, n64 li, .slice uA xs.length uc] := by
                    rw [← hwe]
                    exact CellsAt.new wd [.int .i64 (m : Int), n64 ti, n64 sq, n64 li, .slice uA xs.length uc] 47
                  have hfe := run_loadAt_rowat (P := Try.prog) hFe.1 Try.underlying47 rfl (by kernel_rfl)
                  have kce := kd.thenN ke
                  have k1e := HT.out.2.2.1.thenN (HC.out.2.2.2.2.1.thenN kce)
                  have hif := isFrame_c (s := m) (ti := ti) (sq := sq) (li := li) (od.readsB.keepN ke) (HH.out.2.2.2.1.keepN (HH.out.2.2.1.thenN k1e)) HH.out.2.2.2.2.1
                  have HE := Lib.hid (And.intro hwe (And.intro hfe (And.intro (HH.out.2.1 we k1e) (And.intro kce k1e))))
                  clear hwe ke hFe hfe kce k1e od kd
                  go_wp2_with (first
                    | ((with_reducible show wpList _ _ _ _ _ (World.alloc wd _)); rw [HE.out.1])
                    | ((with_reducible show wpList _ _ _ (Oper.mk (some 121) _ _ _ _ _ :: _) _ _); refine wpl_vg rfl (run_load_opv HE.out.2.1 rfl) ?_)
                    | ((with_reducible show wpList _ _ _ (Oper.mk (some 122) _ _ _ _ _ :: _) _ _); refine wpl_vg rfl (run_load_opv HE.out.2.2.1 rfl) ?_)
                    | fail)
                  refine hif.mono ?_
                  rintro e wf ⟨rfl, kf⟩
                  clear hif
                  have kcf := HE.out.2.2.2.1.thenN kf
                  obtain ⟨hzA, hzB, hzC⟩ := HC.out.2.2.2.2.2
                  have hzf := kcf.size
                  have hltX := HT.out.2.2.2.1
                  have hlf := bd_loadN HC.out.2.2.1 hzB kcf
                  have hxf := HT.out.1.keep hltX (HC.out.2.2.2.2.1.thenN kcf) (fun x => x)
                  obtain ⟨wg, hst, hxg, kg, hzg⟩ := box_store hxf 34 #[n64 B2.fl, n64 B2.e0, n64 B2.e1, n64 B2.e2, n64 B2.e3, n64 B2.e4, n64 B2.e5, n64 B2.ti, n64 B2.sq, n64 B2.li, .slice eA B2.bl.length ec, .slice fA B2.pl.length fc] rfl (by kernel_rfl) (by kernel_rfl)
                  have hog := ((HC.out.2.2.2.1.keepN kcf).keep kg (fun i hi e => by have := hi.1; omega)).wide (G := fun i => w1.heap.size ≤ i ∧ i ≠ w3.heap.size) (fun i _ hi => ⟨by have := hi.1; have := HX1.out; omega, by have := hi.1; omega⟩)
                  have k1g := (HE.out.2.2.2.2.thenN kf).fresh kg (fun i e => by have := HX1.out; omega)
                  have HG := Lib.hid (And.intro hst (And.intro hlf (And.intro hxg (And.intro hog (And.intro k1g (show w3.heap.size < wg.heap.size by omega))))))
                  clear hst hlf hxg hog k1g kg hzg hxf hzA hzB hzC hzf hltX kcf kf
                  go_wp2_with (first
                    | ((with_reducible show wpList _ _ _ (Oper.mk (some 136) _ _ _ _ _ :: _) _ _); refine wpl_val rfl (run_load_opv HG.out.2.1 rfl) ?_)
                    | ((with_reducible show wpList _ _ _ (Oper.mk _ (Op.store 34 _ _) _ _ _ _ :: _) _ _); refine wpl_skip rfl (run_store_op HG.out.1 rfl rfl) ?_)
                    | fail)
                  go_roundw
                  case rel => exact ⟨q + 1, n2, a2, .slice eA B2.bl.length ec, .slice fA B2.pl.length fc, l3, by go_num, by omega, HT.out.2.2.2.2.1, HT.out.2.2.2.2.2.1, by rw [HT.out.2.2.2.2.2.2]; exact HG.out.2.2.1, by rw [HT.out.2.2.2.2.2.2]; exact HG.out.2.2.2.1, HG.out.2.2.2.2.1, HG.out.2.2.2.2.2⟩
                  case measure => exact meas_up hlt
                · subst hE6
                  have HT := Lib.hid (And.intro HZ.out.2.2.1 (And.intro HZ.out.2.2.2.1 (And.intro HZ.out.2.2.2.2.1 (And.intro HZ.out.2.2.2.2.2 (And.intro HN.out.1 (And.intro HN.out.2.1 HN.out.2.2))))))
                  obtain ⟨B2, hB2⟩ : ∃ B2, B = B2 := ⟨_, rfl⟩
                  rw [hB2] at HT
                  clear hB2
                  obtain ⟨hx, ho, kw, hltX, hn2, ha2, hB2⟩ := HT.out
                  have hv2 : valE B2 = 0 := by rw [← hB2]; exact trB_val HO.out.1 hn2 ha2
                  have hs2 : bdSize B2 ≤ 10000000 := by have := bdSize_laid B2 hv2; omega
                  have hle2 := (valE_zero hv2).2
                  obtain ⟨hoE, hoF⟩ : opE B2 = 0 ∧ opF B2 = ⟨m, ti, sq, li, xs, fr, nw⟩ := by rw [← hB2]; exact tr_open HO.out.1 HO.out.2.1 HO.out.2.2 hn2 ha2
                  have hlx := bd_load wz w3.heap.size hx
                  have hen : Calls Try.prog 26 #[bdV B2 (.slice bA B2.bl.length bc) (.slice pA B2.pl.length pc)] wz fun e w' => ∃ v, e = .returned (.tuple #[v, .int .i64 0]) ∧ OwB w' 5 (Iv wz.heap.size w'.heap.size) v (laid B2) ∧ KpN wz w' := by
                    have := encode_c ho.rd hs2
                    unfold EncP at this
                    rw [enc_laid hv2, hv2] at this
                    exact this
                  have HV := Lib.hid (And.intro hv2 (And.intro hs2 (And.intro hle2 (And.intro hoE hoF))))
                  have HX := Lib.hid hlx
                  clear hx ho kw hltX hn2 ha2 hB2 hv2 hs2 hle2 hoE hoF hlx
                  go_wp2_with (first
                    | ((with_reducible show wpList _ _ _ (Oper.mk _ (Op.store 34 _ _) _ _ _ _ :: _) _ (World.alloc w7 _)); refine wpl_skip rfl (run_store_op HS8.out rfl rfl) ?_)
                    | ((with_reducible show wpList _ _ _ (Oper.mk (some 96) _ _ _ _ _ :: _) _ _); refine wpl_val rfl (run_load_opv HX.out rfl) ?_)
                    | fail)
                  refine hen.mono ?_
                  rintro e wa ⟨v, rfl, ov, ka⟩
                  clear hen
                  have hde : Calls Try.prog 23 #[v] wa fun e w' => ∃ bv pv ls, e = .returned (.tuple #[bdV B2 bv pv, .int .i64 0]) ∧ OwBd w' 37 (Iv wa.heap.size w'.heap.size) bv pv B2 ls ∧ KpN wa w' := by
                    have := decode_c ov.readsB (by have := HV.out.2.2.1; omega)
                    unfold DecP DecQ at this
                    rw [(dec_back HV.out.1).1, (dec_back HV.out.1).2] at this
                    exact this
                  have HA := Lib.hid ka
                  clear ov ka
                  go_wp2_with fail
                  refine hde.mono ?_
                  rintro e wb ⟨bv, pv, l3, rfl, ho3, kb⟩
                  clear hde
                  obtain ⟨eA, ec, rfl, -⟩ := ho3.rd.bl.form
                  obtain ⟨fA, fc, rfl, -⟩ := ho3.rd.pl.form
                  obtain ⟨wc, hst, hxc, kc, hzc⟩ := bundle_put wb B2 eA fA B2.bl.length ec B2.pl.length fc
                  have hlc := bd_loadN hxc (by omega) (Kp.refl _ _)
                  obtain ⟨hv2, hs2, hle2, hoE, hoF⟩ := HV.out
                  have hop : Calls Try.prog 29 #[bdV B2 (.slice eA B2.bl.length ec) (.slice fA B2.pl.length fc)] wc fun e w' => ∃ u, e = .returned (.tuple #[.agg #[.int .i64 (m : Int), n64 ti, n64 sq, n64 li, u], n64 fr, .bool nw, .int .i64 0]) ∧ OwB w' 5 (Iv wc.heap.size w'.heap.size) u xs ∧ KpN wc w' := by
                    have := open_c (ho3.rd.keepN kc) hs2
                    unfold OpenP at this
                    rw [hoE, hoF] at this
                    exact this
                  have HC := Lib.hid (And.intro hst (And.intro hlc (And.intro hxc (And.intro (ho3.keepN kc) (And.intro (HA.out.thenN (kb.thenN kc)) (And.intro (show wz.heap.size ≤ wa.heap.size from HA.out.size) (show wb.heap.size < wc.heap.size ∧ wa.heap.size ≤ wb.heap.size by have := kb.size; omega)))))))
                  clear hst hlc hxc hzc ho3 kb kc hv2 hs2 hle2 hoE hoF
                  go_wp2_with (first
                    | ((with_reducible show wpList _ _ _ (Oper.mk _ (Op.store 34 _ _) _ _ _ _ :: _) _ _); refine wpl_skip rfl (run_store_op HC.out.1 rfl rfl) ?_)
                    | ((with_reducible show wpList _ _ _ (Oper.mk (some 112) _ _ _ _ _ :: _) _ _); refine wpl_val rfl (run_load_opv HC.out.2.1 rfl) ?_)
                    | fail)
                  refine hop.mono ?_
                  rintro e wd ⟨u, rfl, od, kd⟩
                  clear hop
                  obtain ⟨uA, uc, rfl, -⟩ := od.readsB.form
                  obtain ⟨we, hwe⟩ : ∃ we, wd.alloc (.cells #[.int .i64 (m : Int), n64 ti, n64 sq, n64 li, .slice uA xs.length uc] 47) = we := ⟨_, rfl⟩
                  have ke : KpN wd we := by rw [← hwe]; exact (Kp.refl _ wd).alloc _
                  have hFe : CellsAt we wd.heap.size [.int .i64 (m : Int), n64 ti, n64 sq, n64 li, .slice uA xs.length uc] := by
                    rw [← hwe]
                    exact CellsAt.new wd [.int .i64 (m : Int), n64 ti, n64 sq, n64 li, .slice uA xs.length uc] 47
                  have hfe := run_loadAt_rowat (P := Try.prog) hFe.1 Try.underlying47 rfl (by kernel_rfl)
                  have kce := kd.thenN ke
                  have k1e := HT.out.2.2.1.thenN (HC.out.2.2.2.2.1.thenN kce)
                  have hif := isFrame_c (s := m) (ti := ti) (sq := sq) (li := li) (od.readsB.keepN ke) (HH.out.2.2.2.1.keepN (HH.out.2.2.1.thenN k1e)) HH.out.2.2.2.2.1
                  have HE := Lib.hid (And.intro hwe (And.intro hfe (And.intro (HH.out.2.1 we k1e) (And.intro kce k1e))))
                  clear hwe ke hFe hfe kce k1e od kd
                  go_wp2_with (first
                    | ((with_reducible show wpList _ _ _ _ _ (World.alloc wd _)); rw [HE.out.1])
                    | ((with_reducible show wpList _ _ _ (Oper.mk (some 121) _ _ _ _ _ :: _) _ _); refine wpl_vg rfl (run_load_opv HE.out.2.1 rfl) ?_)
                    | ((with_reducible show wpList _ _ _ (Oper.mk (some 122) _ _ _ _ _ :: _) _ _); refine wpl_vg rfl (run_load_opv HE.out.2.2.1 rfl) ?_)
                    | fail)
                  refine hif.mono ?_
                  rintro e wf ⟨rfl, kf⟩
                  clear hif
                  have kcf := HE.out.2.2.2.1.thenN kf
                  obtain ⟨hzA, hzB, hzC⟩ := HC.out.2.2.2.2.2
                  have hzf := kcf.size
                  have hltX := HT.out.2.2.2.1
                  have hlf := bd_loadN HC.out.2.2.1 hzB kcf
                  have hxf := HT.out.1.keep hltX (HC.out.2.2.2.2.1.thenN kcf) (fun x => x)
                  obtain ⟨wg, hst, hxg, kg, hzg⟩ := box_store hxf 34 #[n64 B2.fl, n64 B2.e0, n64 B2.e1, n64 B2.e2, n64 B2.e3, n64 B2.e4, n64 B2.e5, n64 B2.ti, n64 B2.sq, n64 B2.li, .slice eA B2.bl.length ec, .slice fA B2.pl.length fc] rfl (by kernel_rfl) (by kernel_rfl)
                  have hog := ((HC.out.2.2.2.1.keepN kcf).keep kg (fun i hi e => by have := hi.1; omega)).wide (G := fun i => w1.heap.size ≤ i ∧ i ≠ w3.heap.size) (fun i _ hi => ⟨by have := hi.1; have := HX1.out; omega, by have := hi.1; omega⟩)
                  have k1g := (HE.out.2.2.2.2.thenN kf).fresh kg (fun i e => by have := HX1.out; omega)
                  have HG := Lib.hid (And.intro hst (And.intro hlf (And.intro hxg (And.intro hog (And.intro k1g (show w3.heap.size < wg.heap.size by omega))))))
                  clear hst hlf hxg hog k1g kg hzg hxf hzA hzB hzC hzf hltX kcf kf
                  go_wp2_with (first
                    | ((with_reducible show wpList _ _ _ (Oper.mk (some 136) _ _ _ _ _ :: _) _ _); refine wpl_val rfl (run_load_opv HG.out.2.1 rfl) ?_)
                    | ((with_reducible show wpList _ _ _ (Oper.mk _ (Op.store 34 _ _) _ _ _ _ :: _) _ _); refine wpl_skip rfl (run_store_op HG.out.1 rfl rfl) ?_)
                    | fail)
                  go_roundw
                  case rel => exact ⟨q + 1, n, a, .slice eA B2.bl.length ec, .slice fA B2.pl.length fc, l3, by go_num, by omega, HT.out.2.2.2.2.1, HT.out.2.2.2.2.2.1, by rw [HT.out.2.2.2.2.2.2]; exact HG.out.2.2.1, by rw [HT.out.2.2.2.2.2.2]; exact HG.out.2.2.2.1, HG.out.2.2.2.2.1, HG.out.2.2.2.2.2⟩
                  case measure => exact meas_up hlt
            · obtain rfl : q = N := by omega
              obtain ⟨B2, hB2⟩ : ∃ B2, trB (wrapD (m : Int) ti sq li fr tg xs nw) n a = B2 := ⟨_, rfl⟩
              rw [hB2] at hx ho
              obtain ⟨bA, bc, rfl, -⟩ := ho.rd.bl.form
              obtain ⟨pA, pc, rfl, -⟩ := ho.rd.pl.form
              have HT := Lib.hid (And.intro hx (And.intro ho (And.intro kr (And.intro hltX (And.intro hn (And.intro ha hB2))))))
              clear hx ho kr hltX hn ha hB2
              obtain ⟨hx, ho, kw, hltX, hn2, ha2, hB2⟩ := HT.out
              have hv2 : valE B2 = 0 := by rw [← hB2]; exact trB_val HO.out.1 hn2 ha2
              have hs2 : bdSize B2 ≤ 10000000 := by have := bdSize_laid B2 hv2; omega
              have hle2 := (valE_zero hv2).2
              obtain ⟨hoE, hoF⟩ : opE B2 = 0 ∧ opF B2 = ⟨m, ti, sq, li, xs, fr, nw⟩ := by rw [← hB2]; exact tr_open HO.out.1 HO.out.2.1 HO.out.2.2 hn2 ha2
              have hlx := bd_load wr w3.heap.size hx
              have hop : Calls Try.prog 29 #[bdV B2 (.slice bA B2.bl.length bc) (.slice pA B2.pl.length pc)] wr fun e w' => ∃ u, e = .returned (.tuple #[.agg #[.int .i64 (m : Int), n64 ti, n64 sq, n64 li, u], n64 fr, .bool nw, .int .i64 0]) ∧ OwB w' 5 (Iv wr.heap.size w'.heap.size) u xs ∧ KpN wr w' := by
                have := open_c ho.rd hs2
                unfold OpenP at this
                rw [hoE, hoF] at this
                exact this
              have HX := Lib.hid (And.intro hlx kw)
              clear hx ho kw hltX hn2 ha2 hB2 hv2 hs2 hle2 hoE hoF hlx
              go_wp2_with (first
                | ((with_reducible show wpList _ _ _ (Oper.mk (some 138) _ _ _ _ _ :: _) _ _); refine wpl_val rfl (run_load_opv HX.out.1 rfl) ?_)
                | fail)
              refine hop.mono ?_
              rintro e wd ⟨u, rfl, od, kd⟩
              clear hop
              obtain ⟨uA, uc, rfl, -⟩ := od.readsB.form
              obtain ⟨we, hwe⟩ : ∃ we, wd.alloc (.cells #[.int .i64 (m : Int), n64 ti, n64 sq, n64 li, .slice uA xs.length uc] 47) = we := ⟨_, rfl⟩
              have ke : KpN wd we := by rw [← hwe]; exact (Kp.refl _ wd).alloc _
              have hFe : CellsAt we wd.heap.size [.int .i64 (m : Int), n64 ti, n64 sq, n64 li, .slice uA xs.length uc] := by
                rw [← hwe]
                exact CellsAt.new wd [.int .i64 (m : Int), n64 ti, n64 sq, n64 li, .slice uA xs.length uc] 47
              have hfe := run_loadAt_rowat (P := Try.prog) hFe.1 Try.underlying47 rfl (by kernel_rfl)
              have kce := kd.thenN ke
              have k1e := HX.out.2.thenN kce
              have hif := isFrame_c (s := m) (ti := ti) (sq := sq) (li := li) (od.readsB.keepN ke) (HH.out.2.2.2.1.keepN (HH.out.2.2.1.thenN k1e)) HH.out.2.2.2.2.1
              have HE := Lib.hid (And.intro hwe (And.intro hfe (And.intro (HH.out.2.1 we k1e) k1e)))
              clear hwe ke hFe hfe kce k1e od kd
              go_wp2_with (first
                | ((with_reducible show wpList _ _ _ _ _ (World.alloc wd _)); rw [HE.out.1])
                | ((with_reducible show wpList _ _ _ (Oper.mk (some 147) _ _ _ _ _ :: _) _ _); refine wpl_vg rfl (run_load_opv HE.out.2.1 rfl) ?_)
                | ((with_reducible show wpList _ _ _ (Oper.mk (some 148) _ _ _ _ _ :: _) _ _); refine wpl_vg rfl (run_load_opv HE.out.2.2.1 rfl) ?_)
                | fail)
              refine hif.mono ?_
              rintro e wf ⟨rfl, kf⟩
              clear hif
              go_wp2_with fail
              go_ret
              exact ⟨rfl, HH.out.2.2.1.thenN (HE.out.2.2.2.thenN kf)⟩
      · have i1 : (fr : Int) ≤ 281474976710655 := by omega
        have i2 : decide ((tg : Int) ≤ 281474976710655) = false := by simp; omega
        have hE := HF.out.1
        rw [if_neg (fun hh => hto hh.2.2)] at hE
        have HK := Lib.hid k15
        subst hE
        rw [hfit]
        clear k15 k5 hfit hfr hto c5
        go_wp2_with fail
        go_ret
        exact ⟨rfl, HH.out.2.2.1.thenN HK.out⟩
    · have i1 : decide ((fr : Int) ≤ 281474976710655) = false := by simp; omega
      have hE := HF.out.1
      rw [if_neg (fun hh => hfr hh.2.1)] at hE
      have HK := Lib.hid k15
      subst hE
      rw [hfit]
      clear k15 k5 hfit hfr c5
      go_wp2_with fail
      go_ret
      exact ⟨rfl, HH.out.2.2.1.thenN HK.out⟩
  · have hE := HF.out.1
    rw [if_neg (fun hh => hfit hh.1)] at hE
    have HK := Lib.hid k15
    have hfit := Bool.eq_false_iff.2 hfit
    subst hE
    rw [hfit]
    clear k15 k5 hfit c5
    go_wp2_with fail
    go_ret
    exact ⟨rfl, HH.out.2.2.1.thenN HK.out⟩
end Go.Proofs.Yteokkpmndfekoaa
