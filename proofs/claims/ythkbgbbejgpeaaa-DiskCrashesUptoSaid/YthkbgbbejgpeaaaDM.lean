/- disk.Load: the walk. -/
import Derived.Test.YthkbgbbejgpeaaaDL
namespace Go.Proofs.Ythkbgbbejgpeaaa
open Go Go.RowKit
set_option maxRecDepth 100000

theorem run_arrp_op {P : Program} {a : Act} {dst : Option Tmp} {t e ty : TypeId} {n : Nat} {x : Operand} {pos : String} {af : Array Edge} {gd : Option (Nat × Bool)} {W : World} {p : Option Addr} {len cap : Nat} (ht : P.underlying t = some (.array n e)) (hn : n ≤ len) (hx : a.eval x = .slice p len cap) :
    (execOp a.eval { dst := dst, op := .sliceToArrayPointer t x, type := ty, pos := pos, after := af, guard := gd }).run P W = .ok (.value (.pointer p)) W := by
  unfold execOp
  simp only [Sem.run_bind, hx, run_arrayAt W t e n p len cap ht hn, Result.andThen_ok, Sem.run_pure]
/-- an operation behind a guard that is met, whose run is known -/
theorem wpl_valg {P : Program} {o : Oper} {ops : Array Oper} {rest : List Oper} {a : Act} {w w' : World} {v : Value} {Q : Exit → Act → World → Prop} (hg : Region.wanted o (yielded ops a.tmps) = true) (h : (execOp a.eval o).run P w = .ok (.value v) w') (hk : wpList P ops Q rest (a.put o.dst v) w') : wpList P ops Q (o :: rest) a w :=
  wpList_step fun K hK => by rw [if_pos hg]; exact wp_val h (hK _ _ hk)
def DLoadP (w : World) (r : Option Dk) (e : Ending) (w' : World) : Prop := match r with
  | some d => ∃ g bd bt m, e = .returned (.tuple #[.pointer (some ⟨g, 0, none⟩), .int .i64 0]) ∧ DiskM w' (Iv w.heap.size w'.heap.size) g bd bt m 0 (.map []) (fun _ => .slice none 0 0) d ∧ KpN w w'
  | none => e = .returned (.tuple #[.pointer none, .int .i64 1]) ∧ KpN w w'
set_option maxHeartbeats 3200000 in
theorem dload_c {w : World} {A : Option Addr} {N c : Nat} {img : List UInt8} (hi : RdB w (.slice A N c) img) (hN : N ≤ 1000000000) :
    Calls Try.prog 22 #[.slice A N c] w (DLoadP w (loadD img)) := by
  have hl := hi.len
  obtain ⟨n, r, hr, hNn⟩ : ∃ n r, r < 129 ∧ N = n * 129 + r := ⟨N / 129, N % 129, Nat.mod_lt _ (by omega), by omega⟩
  have hq : (N : Int) / 129 = (n : Int) := by omega
  have hrm : (N : Int) % 129 = (r : Int) := by omega
  have hdn : img.length / 129 = n := by omega
  have hdr : img.length % 129 = r := by omega
  have HL := Lib.hid (And.intro hl (And.intro hdn (And.intro hdr hNn)))
  clear hl hdn hdr hNn
  by_cases hbad : r ≠ 0 ∨ n < 1 ∨ 65536 < n
  · have hD : loadD img = none := by
      unfold loadD
      rw [HL.out.2.1, HL.out.2.2.1]
      exact if_neg (fun h => by omega)
    rw [hD]
    by_cases h0 : r = 0
    · subst h0
      have HB := Lib.hid hbad
      clear hbad
      by_cases h1 : n < 1
      · go_enter Try.func22, Try.ntmps22
        go_wp2
        go_ret2
        exact ⟨rfl, Kp.refl _ _⟩
      · have h2 : 65536 < n := by have := HB.out; omega
        go_enter Try.func22, Try.ntmps22
        go_wp2
        go_ret2
        exact ⟨rfl, Kp.refl _ _⟩
    · clear hbad
      go_enter Try.func22, Try.ntmps22
      go_wp2
      go_ret2
      exact ⟨rfl, Kp.refl _ _⟩
  · obtain ⟨h0, h1, h2⟩ : r = 0 ∧ 1 ≤ n ∧ n ≤ 65536 := by omega
    subst h0
    clear hbad
    have hNp : 0 < N := by have := HL.out.2.2.2; omega
    obtain ⟨ad, hA⟩ : ∃ ad, A = some ad := by
      obtain ⟨ad, hA, _⟩ := hi.at_ 0 (by have := HL.out.1; omega)
      exact ⟨ad, hA⟩
    subst hA
    have hcap : N ≤ c := by
      obtain ⟨_, A', c', hv, hc, _⟩ := hi
      injection hv with e1 e2 e3
      omega
    have HI := Lib.hid hi
    clear hi
    go_enter Try.func22, Try.ntmps22
    go_wp2_with fail
    refine (blank_c h2).mono ?_
    rintro e w1 ⟨g, bd, bt, m, rfl, lg, lbd, lbt, lm, n1, n2, n3, n4, n5, n6, og, obd, obt, om, k1⟩
    have hd1 := DiskM.blank h1 h2 lg lbd lbt lm ⟨n1, n2, n3, n4, n5, n6⟩ og obd obt om
    rw [← loadI_zero img n] at hd1
    clear og obd obt om
    go_wp2_with fail
    go_loopw [26] (fun j wr => ∃ q : Nat, q ≤ n ∧ j = .int .i64 q ∧ (∀ i, i < q → goodRow img i = true) ∧ DiskM wr (Iv w.heap.size w1.heap.size) g bd bt m 0 (.map []) (fun _ => .slice none 0 0) (loadI img n q) ∧ Kp (fun b => b = bd ∨ b = bt) w1 wr) (fun j _ => n - (intOf j).toNat)
    case atStart => exact ⟨0, Nat.zero_le _, rfl, fun i hi => (by omega), hd1, Kp.refl _ _⟩
    case round =>
      obtain ⟨q, hqn, rfl, hgood, hd, hk⟩ := hrel
      by_cases hlt : q < n
      · have b1 : q * 129 + 129 ≤ N := by have := HL.out.2.2.2; omega
        have b2 : (q + 1) * 129 - q * 129 = 129 := by omega
        have hi1 := (HI.out.keepN k1).keep hk (fun b hb e => by
          have hlt := World.block_lt_of_cell? w _ (HI.out.at_ 0 (by have := HI.out.len; omega)).choose_spec.2
          rw [add_block] at hlt
          have e2 := (HI.out.at_ 0 (by have := HI.out.len; omega)).choose_spec.1
          injection e2 with e2
          rw [← e2] at hlt
          injection hb with hb
          rw [hb] at hlt
          omega)
        have hPlt : ad.block < w.heap.size := by
          obtain ⟨ad', e2, hcc⟩ := HI.out.at_ 0 (by have := HI.out.len; omega)
          injection e2 with e2
          subst e2
          have hlt := World.block_lt_of_cell? w _ hcc
          rwa [add_block] at hlt
        have hcellP : ∀ j (hj : q * 129 + j < img.length), wr.cell? ((ad.add (q * 129)).add j) = some (bv img[q * 129 + j]) := fun j hj => by
          obtain ⟨ad', e2, hcc⟩ := hi1.at_ (q * 129 + j) hj
          injection e2 with e2
          subst e2
          rw [add_add]
          exact hcc
        have hPb : (ad.add (q * 129)).block = ad.block := add_block _ _
        obtain ⟨P, hP⟩ : ∃ P, ad.add (q * 129) = P := ⟨_, rfl⟩
        rw [hP] at hcellP hPb
        have hC : 129 ≤ c - q * 129 := by omega
        have HD := Lib.hid hd
        have HP := Lib.hid hP
        have HPB := Lib.hid hPb
        clear hd hi1 hP hPb
        go_wp2_with fail
        rw [b2, HP.out]
        obtain ⟨C, hCC⟩ : ∃ C, c - q * 129 = C := ⟨_, rfl⟩
        rw [hCC] at hC ⊢
        have hC1 : ¬ C = 1 := by omega
        clear hCC
        obtain ⟨T, hT⟩ : ∃ T, imgText img q = T := ⟨_, rfl⟩
        have hTl : T.length = 128 := by rw [← hT]; exact imgText_len img q n hlt (by have := HL.out; omega)
        have hrowT : RowAt wr (P.add 1) (bvs T) := fun j v hj => by
          have hj1 : j < 128 := by have := (List.getElem?_eq_some_iff.1 hj).1; rw [bvs_length] at this; omega
          have hji : q * 129 + (1 + j) < img.length := by have := HL.out; omega
          have hv : v = bv img[q * 129 + (1 + j)] := by
            have h5 : T[j]? = some img[q * 129 + (1 + j)] := by
              rw [← hT, imgText, List.getElem?_take, if_pos hj1, List.getElem?_drop, ← List.getElem?_eq_getElem hji]
              congr 1
              omega
            rw [bvs_get, h5] at hj
            exact (Option.some.inj hj).symm
          rw [hv, add_add]
          exact hcellP (1 + j) hji
        have h0i : q * 129 + 0 < img.length := by have := HL.out; omega
        have hcell0 := hcellP 0 h0i
        rw [show P.add 0 = P from rfl] at hcell0
        have hhd : imgHead img q = img[q * 129 + 0] := by simp [imgHead, List.getD, show q * 129 < img.length from h0i]
        obtain ⟨b0, hb0⟩ : ∃ b0, img[q * 129 + 0] = b0 := ⟨_, rfl⟩
        rw [hb0] at hcell0 hhd
        have HT := Lib.hid (And.intro hT hhd)
        clear hT hhd hb0 hcellP
        refine rg_begin 10 (fun b => b = bd) (by kernel_rfl) (fun w3 d3 => ?_)
        have h3 := HD.out.keepN d3
        have h3c0 : w3.cell? ⟨g, 0, none⟩ = some (.slice (some ⟨bd, 0, none⟩) n n) := h3.c0
        have hrow3 := hrowT.keep d3 (fun e => e)
        have hst := h3.setRow q hlt T hTl
        have kst : Kp (fun b => b = bd) w3 (w3.setCells bd (q * 128) (bvs T)) := Kp.setCells bd (bvs T) (q * 128) w3
        have hlen : (bvs T).length = 128 := by rw [bvs_length, hTl]
        refine rg_take 0 (d := (some 36)) (v := .pointer (some ⟨g, 0, none⟩)) (by decide) rfl rfl (by kernel_rfl) (by kernel_rfl) (by kernel_rfl) (fun _ _ _ h => h) rfl (fun W => rfl) ?_
        conv => arg 8; simp only [Act.put, List.setIfInBounds_toArray, List.set_cons_zero, List.set_cons_succ]
        refine rg_take 1 (d := (some 37)) (v := .pointer (some ⟨g, 0, none⟩)) (by decide) rfl rfl (by kernel_rfl) (by kernel_rfl) (by kernel_rfl) (fun _ _ _ h => h) rfl (fun W => by go_simp) ?_
        conv => arg 8; simp only [Act.put, List.setIfInBounds_toArray, List.set_cons_zero, List.set_cons_succ]
        refine rg_take 2 (d := (some 38)) (v := .pointer (some ⟨g, 0, none⟩)) (by decide) rfl rfl (by kernel_rfl) (by kernel_rfl) (by kernel_rfl) (fun _ _ _ h => h) rfl (fun W => by go_simp) ?_
        conv => arg 8; simp only [Act.put, List.setIfInBounds_toArray, List.set_cons_zero, List.set_cons_succ]
        refine rg_read 3 (d := (some 39)) (v := .slice (some ⟨bd, 0, none⟩) n n) (by decide) (by kernel_rfl) (by kernel_rfl) rfl rfl (by kernel_rfl) (by kernel_rfl) (by kernel_rfl) (fun _ _ _ h => h) rfl (fun W hW => by have hc := (hW.cell (p := ⟨g, 0, none⟩) (h3.lt.1) (fun hh => n1 hh)).trans (h3c0); go_simp) ?_
        conv => arg 8; simp only [Act.put, List.setIfInBounds_toArray, List.set_cons_zero, List.set_cons_succ]
        refine rg_take 4 (d := (some 40)) (v := .int .i64 q) (by decide) rfl rfl (by kernel_rfl) (by kernel_rfl) (by kernel_rfl) (fun _ _ _ h => h) rfl (fun W => rfl) ?_
        conv => arg 8; simp only [Act.put, List.setIfInBounds_toArray, List.set_cons_zero, List.set_cons_succ]
        refine rg_take 5 (d := (some 41)) (v := .slice (some P) 129 C) (by decide) rfl rfl (by kernel_rfl) (by kernel_rfl) (by kernel_rfl) (fun _ _ _ h => h) rfl (fun W => rfl) ?_
        conv => arg 8; simp only [Act.put, List.setIfInBounds_toArray, List.set_cons_zero, List.set_cons_succ]
        refine rg_take 6 (d := (some 42)) (v := .slice (some (P.add 1)) 128 (C - 1)) (by decide) rfl rfl (by kernel_rfl) (by kernel_rfl) (by kernel_rfl) (fun _ _ _ h => h) rfl (fun W => by go_simp) ?_
        conv => arg 8; simp only [Act.put, List.setIfInBounds_toArray, List.set_cons_zero, List.set_cons_succ]
        refine rg_take 7 (d := (some 43)) (v := .pointer (some (P.add 1))) (by decide) rfl rfl (by kernel_rfl) (by kernel_rfl) (by kernel_rfl) (fun _ _ _ h => h) rfl (fun W => run_arrp_op Try.underlying85 (Nat.le_refl _) rfl) ?_
        conv => arg 8; simp only [Act.put, List.setIfInBounds_toArray, List.set_cons_zero, List.set_cons_succ]
        refine rg_read 8 (d := (some 44)) (v := .agg (bvs T).toArray) (by decide) (by kernel_rfl) (by kernel_rfl) rfl rfl (by kernel_rfl) (by kernel_rfl) (by kernel_rfl) (fun _ _ _ h => h) rfl (fun W hW => by exact run_load_op (hrow3.keep hW (fun e => by rw [add_block, HPB.out] at e; omega)) rfl Try.underlying85 rfl (secSize _ (by simp [bvs, hTl]))) ?_
        conv => arg 8; simp only [Act.put, List.setIfInBounds_toArray, List.set_cons_zero, List.set_cons_succ]
        refine rg_take 9 (d := (some 45)) (v := .pointer (some ⟨bd, q * 128, none⟩)) (by decide) rfl rfl (by kernel_rfl) (by kernel_rfl) (by kernel_rfl) (fun _ _ _ h => h) rfl (fun W => by go_simp) ?_
        conv => arg 8; simp only [Act.put, List.setIfInBounds_toArray, List.set_cons_zero, List.set_cons_succ]
        refine rg_lastS (G := fun _ => True) (w3.setCells bd (q * 128) (bvs T)) (d := none) rfl rfl (by kernel_rfl) rfl (run_store_op (run_storeAt_mid w3 bd (q * 128) 85 (bvs T).toArray (by simpa [hlen] using h3.there q hlt) (secSize _ (by simp [bvs, hTl])) (bvs_all _)) rfl rfl) (by kernel_rfl) ?_
        conv => arg 8; simp only [Act.put, List.setIfInBounds_toArray, List.set_cons_zero, List.set_cons_succ]
        refine rg_done (by kernel_rfl) ?_
        have hd4 : DiskM (w3.setCells bd (q * 128) (bvs T)) (Iv w.heap.size w1.heap.size) g bd bt m 0 (.map []) (fun _ => .slice none 0 0) ⟨n, upd (loadI img n q).du q (imgText img q), (loadI img n q).to, fun _ => [], false, -1⟩ := by
          rw [HT.out.1]
          exact hst
        have hcell4 : (w3.setCells bd (q * 128) (bvs T)).cell? P = some (bv b0) := by
          rw [kst.cell (by have := d3.size; have := hk.size; have := k1.size; have := HPB.out; omega) (by have := HPB.out; omega), d3.cell (by have := hk.size; have := k1.size; have := HPB.out; omega) (fun e => e)]
          exact hcell0
        have k04 : Kp (fun b => b = bd ∨ b = bt) w1 (w3.setCells bd (q * 128) (bvs T)) := (hk.thenN d3).trans kst (fun _ _ x => x) (fun _ _ x => .inl x)
        clear hst kst hrow3 h3 h3c0 hlen hcell0 hrowT
        generalize w3.setCells bd (q * 128) (bvs T) = w4 at *
        have c0 : w4.cell? ⟨g, 0, none⟩ = some (.slice (some ⟨bd, 0, none⟩) n n) := hd4.c0
        have c1 : w4.cell? ⟨g, 1, none⟩ = some (.slice (some ⟨bt, 0, none⟩) n n) := hd4.c1
        have hrow4 : RowAt w4 ⟨bd, q * 128, none⟩ (bvs T) := by
          have := hd4.sec q hlt
          simp only [upd_same] at this
          rwa [HT.out.1] at this
        have hld := run_loadAt_rowat (P := Try.prog) hrow4 Try.underlying85 rfl (secSize _ (by simp [bvs, hTl]))
        have htc : w4.cell? ⟨bt, q, none⟩ = some (.bool ((loadI img n q).to q)) := hd4.tor q hlt
        have htf := hd4.tfz q
        have HD4 := Lib.hid hd4
        have heq := run_eql_bytes (P := Try.prog) w4 T zsec Try.underlying85 Try.underlying5 (by kernel_rfl) hTl zsec_len
        have HGOOD := Lib.hid hgood
        clear hrow4 hd4 hgood
        by_cases hz0 : b0 = 0
        · subst hz0
          have hgr : goodRow img q = true := by simp [goodRow, HT.out.2]
          have hb : bv 0 = .int .u8 0 := rfl
          rw [hb] at hcell4
          clear hb hld heq
          go_wp2
          go_roundw
          case rel =>
            refine ⟨q + 1, by omega, by go_num, fun i hi => ?_, ?_, k04⟩
            · by_cases hiq : i = q
              · rw [hiq]; exact hgr
              · exact HGOOD.out i (by omega)
            · rw [← loadI_row0 img n q HT.out.2]
              exact HD4.out
          case measure => exact meas_up hlt
        · by_cases hz1 : b0 = 1
          · subst hz1
            have hb : bv 1 = .int .u8 1 := rfl
            rw [hb] at hcell4
            clear hb
            by_cases hTz : T = zsec
            · have hgr : goodRow img q = true := by simp [goodRow, HT.out.2, HT.out.1, hTz]
              have hd5 := HD4.out.setTorn q hlt true
              have k5 := kp1_set (w := w4) (F := fun b => b = bt) rfl q (.bool true)
              rw [show decide (T = zsec) = true by simpa using hTz] at heq
              clear hTz
              go_wp2_with (first
                | ((with_reducible show wpList _ _ _ (Oper.mk _ (Op.load 85 _) _ _ _ _ :: _) _ _); refine wpl_valg (by kernel_rfl) (run_load_opv hld rfl) ?_)
                | ((with_reducible show wpList _ _ _ (Oper.mk _ (Op.build 85 _) _ _ _ _ :: _) _ _); refine wpl_valg (by kernel_rfl) run_buildsec ?_)
                | ((with_reducible show wpList _ _ _ (Oper.mk _ (Op.binOp .eql 85 _ _ _) _ _ _ _ :: _) _ _); refine wpl_valg (by kernel_rfl) (run_bin_op heq (by kernel_rfl) rfl rfl) ?_)
                | fail)
              go_roundw
              case rel =>
                refine ⟨q + 1, by omega, by go_num, fun i hi => ?_, ?_, k04.trans k5 (fun _ _ x => x) (fun _ _ x => .inr x)⟩
                · by_cases hiq : i = q
                  · rw [hiq]; exact hgr
                  · exact HGOOD.out i (by omega)
                · rw [← loadI_row img n q true (by simp [HT.out.2])]
                  exact hd5
              case measure => exact meas_up hlt
            · have hgr : ¬ goodRow img q = true := by simp [goodRow, HT.out.2, HT.out.1, hTz]
              have hD : loadD img = none := by
                unfold loadD
                rw [HL.out.2.1]
                exact if_neg (fun h => hgr (h.2.2.2 q hlt))
              have HDD := Lib.hid hD
              rw [show decide (T = zsec) = false by simpa using hTz] at heq
              clear hTz hgr hD
              go_wp2_with (first
                | ((with_reducible show wpList _ _ _ (Oper.mk _ (Op.load 85 _) _ _ _ _ :: _) _ _); refine wpl_valg (by kernel_rfl) (run_load_opv hld rfl) ?_)
                | ((with_reducible show wpList _ _ _ (Oper.mk _ (Op.build 85 _) _ _ _ _ :: _) _ _); refine wpl_valg (by kernel_rfl) run_buildsec ?_)
                | ((with_reducible show wpList _ _ _ (Oper.mk _ (Op.binOp .eql 85 _ _ _) _ _ _ _ :: _) _ _); refine wpl_valg (by kernel_rfl) (run_bin_op heq (by kernel_rfl) rfl rfl) ?_)
                | fail)
              go_ret2
              rw [HDD.out]
              exact ⟨rfl, k1.fresh k04 (fun i hi => by rcases hi with rfl | rfl <;> assumption)⟩
          · have hgr : ¬ goodRow img q = true := by simp [goodRow, HT.out.2, hz0, hz1]
            have hD : loadD img = none := by
              unfold loadD
              rw [HL.out.2.1]
              exact if_neg (fun h => hgr (h.2.2.2 q hlt))
            have HDD := Lib.hid hD
            obtain ⟨z, hz⟩ : ∃ z : Int, (b0.toNat : Int) = z := ⟨_, rfl⟩
            have e0 : ¬ z = 0 := fun e => hz0 (UInt8.toNat_inj.1 (by rw [e] at hz; simpa using hz))
            have e1 : ¬ z = 1 := fun e => hz1 (UInt8.toNat_inj.1 (show b0.toNat = 1 by omega))
            rw [bv, hz] at hcell4
            clear hgr hD hz0 hz1 hz heq hld
            go_wp2
            go_ret2
            rw [HDD.out]
            exact ⟨rfl, k1.fresh k04 (fun i hi => by rcases hi with rfl | rfl <;> assumption)⟩
      · have hqn' : q = n := by omega
        subst hqn'
        have hD : loadD img = some (loadI img q q) := by
          unfold loadD
          rw [HL.out.2.1, HL.out.2.2.1]
          exact if_pos ⟨rfl, h1, h2, hgood⟩
        have HDD := Lib.hid hD
        clear hD
        go_wp2
        go_ret2
        rw [HDD.out]
        exact ⟨g, bd, bt, m, rfl, hd.wide (fun i hi h => ⟨h.1, hi⟩), k1.fresh hk (fun i hi => by rcases hi with rfl | rfl <;> assumption)⟩
end Go.Proofs.Ythkbgbbejgpeaaa
