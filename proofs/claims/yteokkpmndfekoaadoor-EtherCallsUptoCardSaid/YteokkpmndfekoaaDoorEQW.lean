/- EtherCalls: the walk. -/
import Derived.Test.YteokkpmndfekoaaDoorEPL
namespace Go.Proofs.YteokkpmndfekoaaDoor
open Go Go.RowKit Go.ChangeShapes Go.WideShapes Go.ChangeAt
set_option maxRecDepth 100000
-- %lastw

theorem kp_new {w0 w w' : World} (a : KpN w0 w) (b : KpN w0 w') (hs : w.heap.size ≤ w'.heap.size) : Kp (fun b => w0.heap.size ≤ b) w w' :=
  ⟨b.os.trans a.os.symm, b.tape.trans a.tape.symm, b.output.trans a.output.symm, hs, fun k _ hn => by
    have hk : k < w0.heap.size := by omega
    rw [a.block k hk (fun x => x), b.block k hk (fun x => x)]⟩
theorem eopSz (o : Value) (k i at_ m : Int) : (Tryd.prog.info? 49).map (·.size) = some [.int .i64 k, o, .int .i64 i, .int .i64 at_, .int .u32 m].length := by kernel_rfl
theorem l_mem_le {l : List EOp} {o : EOp} (h : o ∈ l) : o.b.length + 5 ≤ (l.map fun o => o.b.length + 5).sum := by
  induction l with
  | nil => cases h
  | cons a r ih =>
    simp only [List.map_cons, List.sum_cons]
    rcases List.mem_cons.1 h with rfl | h
    · omega
    · have := ih h
      omega
theorem l_len_le (l : List EOp) : l.length ≤ (l.map fun o => o.b.length + 5).sum := by
  induction l with
  | nil => simp
  | cons a r ih => simp only [List.map_cons, List.sum_cons, List.length_cons]; omega
set_option maxHeartbeats 6400000 in
theorem calls_walk {w : World} {room : Int} {A : Option Addr} {L c : Nat} {l : List EOp} (hb : BitsOk w) (hs : RdEOps w (.slice A L c) l) (hsz : (l.map fun o => o.b.length + 5).sum ≤ 2000000) :
    Calls Tryd.prog 5 #[.int .i64 room, .slice A L c] w (TrueP w) := by
  by_cases hroom : room < 1 ∨ 1024 < room
  · go_enter Tryd.func5, Tryd.ntmps5
    go_wp2_with fail
    refine (way_new_no hroom).mono ?_
    rintro e w2 ⟨rfl, rfl⟩
    go_wp2_with fail
    refine (enew_no hroom).mono ?_
    rintro e w2 ⟨rfl, rfl⟩
    clear hroom
    go_wp2
    go_ret
    exact ⟨rfl, Kp.refl _ _⟩
  · obtain ⟨n, rfl⟩ := Int.eq_ofNat_of_zero_le (show 0 ≤ room by omega)
    have n1 : 1 ≤ n := by omega
    have n2 : n ≤ 1024 := by omega
    have hlen : L = l.length := by
      obtain ⟨A', c', hv, _⟩ := hs.form
      injection hv
    have hLb : L ≤ 2000000 := by have := l_len_le l; omega
    have HL := Lib.hid hlen
    have HS := Lib.hid hs
    have HSZ := Lib.hid hsz
    clear hroom hlen hs hsz
    go_enter Tryd.func5, Tryd.ntmps5
    go_wp2_with fail
    refine (way_new n1 n2 PT).mono ?_
    rintro e w2 ⟨g, rfl, hg, k2⟩
    go_wp2_with fail
    refine (enew_c n1 n2 RT).mono ?_
    rintro e w3 ⟨r, rfl, hr, k3⟩
    have hz2 := k2.size
    have hz3 := k3.size
    have ht : TwoW w w3 (Iv w.heap.size w2.heap.size) (Iv w2.heap.size w3.heap.size) g r n [] [] :=
      ⟨⟨_, _, hg.keepN k3, rfl⟩, ⟨_, _, hr, rfl⟩, k2.thenN k3, fun x hx => ⟨hx.1, by have := hx.2; omega⟩, fun x hx => ⟨by have := hx.1; omega, hx.2⟩, fun x h1 h2 => by have := h1.2; have := h2.1; omega⟩
    have HT := Lib.hid ht
    clear ht hg hr
    go_wp2_with fail
    go_loopw [9] (fun i wr => ∃ (q : Nat) (F G : Nat → Prop) (st : List (List UInt8 × Bool)), q ≤ L ∧ i = .int .i64 q ∧ TwoW w wr F G g r n st st) (fun i _ => L - (intOf i).toNat)
    case atStart => exact ⟨0, _, _, [], Nat.zero_le _, rfl, HT.out⟩
    case round =>
      clear HT
      obtain ⟨q, F, G, st, hq, rfl, ht⟩ := hrel
      by_cases hlt : q < L
      · have hql : q < l.length := by rw [← HL.out]; exact hlt
        obtain ⟨o, ho⟩ : ∃ o, l[q] = o := ⟨_, rfl⟩
        obtain ⟨ad, cs, rfl, hcs, hrow, hat⟩ := HS.out.row q hql
        have hmem := l_mem_le (show o ∈ l by rw [← ho]; exact List.getElem_mem hql)
        have hcap : q < c := by
          obtain ⟨A', c', hv, hc⟩ := HS.out.form
          injection hv with _ _ e3
          omega
        rw [ho] at hat
        obtain ⟨⟨bv, rfl, hbv⟩, hIi, hIa, hmm⟩ := hat
        obtain ⟨bA, bc, rfl, -⟩ := hbv.form
        have hadlt : ad.block < w.heap.size := by
          have := World.block_lt_of_cell? w _ (hrow 0 _ rfl)
          rwa [add_block, add_block] at this
        have hbl : o.b.length ≤ 10000000 := by have := HSZ.out; omega
        have HB := Lib.hid (And.intro hbv (And.intro hbl (And.intro hIa (And.intro hmm hrow))))
        have HTT := Lib.hid ht
        clear hbv hbl hIa hmm hmem ho hrow hcs ht hIi
        obtain ⟨k, b, i, at_, m⟩ := o
        dsimp only at HB ⊢
        generalize b.length = bl at *
        go_wp2_with fail
        refine rg_begin 7 (fun b => w.heap.size ≤ b) (by kernel_rfl) (fun w4 d4 => ?_)
        have h4 := HTT.out.keepN d4
        have hrow4 := HB.out.2.2.2.2.keepN h4.kp
        refine rg_take 0 (d := (some 39)) (v := .pointer (some ⟨g, 0, none⟩)) (by decide) rfl rfl (by kernel_rfl) (by kernel_rfl) (by kernel_rfl) (fun _ _ _ h => h) rfl (fun W => rfl) ?_
        conv => arg 8; simp only [Act.put, List.setIfInBounds_toArray, List.set_cons_zero, List.set_cons_succ]
        refine rg_take 1 (d := (some 40)) (v := .pointer (some ⟨r, 0, none⟩)) (by decide) rfl rfl (by kernel_rfl) (by kernel_rfl) (by kernel_rfl) (fun _ _ _ h => h) rfl (fun W => rfl) ?_
        conv => arg 8; simp only [Act.put, List.setIfInBounds_toArray, List.set_cons_zero, List.set_cons_succ]
        refine rg_take 2 (d := (some 41)) (v := .slice (some ad) L c) (by decide) rfl rfl (by kernel_rfl) (by kernel_rfl) (by kernel_rfl) (fun _ _ _ h => h) rfl (fun W => rfl) ?_
        conv => arg 8; simp only [Act.put, List.setIfInBounds_toArray, List.set_cons_zero, List.set_cons_succ]
        refine rg_take 3 (d := (some 42)) (v := .int .i64 q) (by decide) rfl rfl (by kernel_rfl) (by kernel_rfl) (by kernel_rfl) (fun _ _ _ h => h) rfl (fun W => rfl) ?_
        conv => arg 8; simp only [Act.put, List.setIfInBounds_toArray, List.set_cons_zero, List.set_cons_succ]
        refine rg_take 4 (d := (some 43)) (v := .pointer (some (ad.add (q * 5)))) (by decide) rfl rfl (by kernel_rfl) (by kernel_rfl) (by kernel_rfl) (fun _ _ _ h => h) rfl (fun W => by go_simp) ?_
        conv => arg 8; simp only [Act.put, List.setIfInBounds_toArray, List.set_cons_zero, List.set_cons_succ]
        refine rg_readD 5 [6, 7, 8, 9, 10, 11, 12, 13, 14, 15, 16, 17] (d := (some 44)) (v := .agg #[.int .i64 k, .slice bA bl bc, .int .i64 i, .int .i64 at_, .int .u32 (m : Int)]) (by decide) (by kernel_rfl) (by kernel_rfl) (by kernel_rfl) rfl rfl (by kernel_rfl) (by kernel_rfl) (by kernel_rfl) (fun _ _ _ h => h) rfl (fun W hW => by exact run_load_op (hrow4.keep hW (fun e => by rw [add_block] at e; omega)) rfl Tryd.underlying49 rfl (eopSz _ _ _ _ _)) ?_
        conv => arg 8; simp only [Act.put, List.setIfInBounds_toArray, List.set_cons_zero, List.set_cons_succ]
        refine rg_call 6 (d := (some 45)) (by kernel_rfl) (step_c h4 hb HB.out.1 HB.out.2.1 HB.out.2.2.1 HB.out.2.2.2.1) rfl rfl (by kernel_rfl) rfl rfl ?_
        rintro e w5 ⟨rfl, hs5, F5, G5, st5, h5⟩
        refine ⟨_, rfl, kp_new h4.kp h5.kp hs5, ?_⟩
        conv => arg 8; simp only [Act.put, List.setIfInBounds_toArray, List.set_cons_zero, List.set_cons_succ]
        obtain ⟨A5, c5, hrow5⟩ := h5.q.row
        obtain ⟨q5, hq5⟩ : ∃ q, st5.length = q := ⟨_, rfl⟩
        have hlen5 := wlen_x h5.p
        rw [hq5] at hrow5 hlen5
        refine rg_only 7 (d := (some 46)) (v := .bool false) rfl rfl (by kernel_rfl) rfl (rfl) ?_
        conv => arg 8; simp only [Act.put, List.setIfInBounds_toArray, List.set_cons_zero, List.set_cons_succ]
        refine rg_stage 18 (fun _ => False) (by kernel_rfl) ?_
        refine rg_take 8 (d := (some 47)) (v := .bool false) (by decide) rfl rfl (by kernel_rfl) (by kernel_rfl) (by kernel_rfl) (fun _ _ _ h => h) rfl (fun W => rfl) ?_
        conv => arg 8; simp only [Act.put, List.setIfInBounds_toArray, List.set_cons_zero, List.set_cons_succ]
        refine rg_take 9 (d := (some 48)) (v := .pointer (some ⟨g, 0, none⟩)) (by decide) rfl rfl (by kernel_rfl) (by kernel_rfl) (by kernel_rfl) (fun _ _ _ h => h) rfl (fun W => rfl) ?_
        conv => arg 8; simp only [Act.put, List.setIfInBounds_toArray, List.set_cons_zero, List.set_cons_succ]
        refine rg_take 11 (d := (some 50)) (v := .pointer (some ⟨r, 0, none⟩)) (by decide) rfl rfl (by kernel_rfl) (by kernel_rfl) (by kernel_rfl) (fun _ _ _ h => h) rfl (fun W => rfl) ?_
        conv => arg 8; simp only [Act.put, List.setIfInBounds_toArray, List.set_cons_zero, List.set_cons_succ]
        refine rg_take 12 (d := (some 51)) (v := .pointer (some ⟨r, 0, none⟩)) (by decide) rfl rfl (by kernel_rfl) (by kernel_rfl) (by kernel_rfl) (fun _ _ _ h => h) rfl (fun W => by go_simp) ?_
        conv => arg 8; simp only [Act.put, List.setIfInBounds_toArray, List.set_cons_zero, List.set_cons_succ]
        refine rg_take 13 (d := (some 52)) (v := .pointer (some ⟨r, 1, none⟩)) (by decide) rfl rfl (by kernel_rfl) (by kernel_rfl) (by kernel_rfl) (fun _ _ _ h => h) rfl (fun W => by go_simp) ?_
        conv => arg 8; simp only [Act.put, List.setIfInBounds_toArray, List.set_cons_zero, List.set_cons_succ]
        refine rg_read 14 (d := (some 53)) (v := .slice A5 q5 c5) (by decide) (by kernel_rfl) (by kernel_rfl) rfl rfl (by kernel_rfl) (by kernel_rfl) (by kernel_rfl) (fun _ _ _ h => h) rfl (fun W hW => by have hc := (hW.cell (p := ⟨r, 1, none⟩) (h5.q.lt) (fun x => x)).trans (hrow5); go_simp) ?_
        conv => arg 8; simp only [Act.put, List.setIfInBounds_toArray, List.set_cons_zero, List.set_cons_succ]
        refine rg_take 15 (d := (some 54)) (v := .int .i64 q5) (by decide) rfl rfl (by kernel_rfl) (by kernel_rfl) (by kernel_rfl) (fun _ _ _ h => h) rfl (fun W => by go_simp) ?_
        conv => arg 8; simp only [Act.put, List.setIfInBounds_toArray, List.set_cons_zero, List.set_cons_succ]
        refine rg_call 10 (d := (some 49)) (by kernel_rfl) (hlen5) rfl rfl (by kernel_rfl) rfl rfl ?_
        rintro e w6 ⟨rfl, rfl⟩
        refine ⟨_, rfl, Kp.refl _ _, ?_⟩
        conv => arg 8; simp only [Act.put, List.setIfInBounds_toArray, List.set_cons_zero, List.set_cons_succ]
        refine rg_take 16 (d := (some 55)) (v := .bool false) (by decide) rfl rfl (by kernel_rfl) (by kernel_rfl) (by kernel_rfl) (fun _ _ _ h => h) rfl (fun W => by go_simp) ?_
        conv => arg 8; simp only [Act.put, List.setIfInBounds_toArray, List.set_cons_zero, List.set_cons_succ]
        refine rg_take 17 (d := (some 56)) (v := .bool false) (by decide) rfl rfl (by kernel_rfl) (by kernel_rfl) (by kernel_rfl) (fun _ _ _ h => h) rfl (fun W => rfl) ?_
        conv => arg 8; simp only [Act.put, List.setIfInBounds_toArray, List.set_cons_zero, List.set_cons_succ]
        refine rg_done (by kernel_rfl) ?_
        have HF := Lib.hid h5
        clear h5 hrow5 hlen5 hq5 h4 hrow4
        go_wp2
        go_roundw
        case rel => exact ⟨q + 1, F5, G5, st5, by omega, by go_num, HF.out⟩
        case measure => exact meas_up hlt
      · have HTT := Lib.hid ht
        clear ht
        go_wp2_with fail
        go_loopw [10] (fun i wr => ∃ (z : Int) (F G : Nat → Prop) (st : List (List UInt8 × Bool)), -1 ≤ z ∧ z ≤ 1025 ∧ i = .int .i64 z ∧ TwoW w wr F G g r n st st) (fun i _ => 2000 - (intOf i + 1).toNat)
        case atStart => exact ⟨-1, F, G, st, by omega, by omega, rfl, HTT.out⟩
        case round =>
          clear HTT
          obtain ⟨z, F, G, st, hz0, hz1, rfl, ht⟩ := hrel
          obtain ⟨A5, c5, hrow5⟩ := ht.q.row
          have hle := ht.q.le
          obtain ⟨q5, hq5⟩ : ∃ q, st.length = q := ⟨_, rfl⟩
          rw [hq5] at hrow5 hle
          have HTT := Lib.hid ht
          clear ht hq5
          by_cases hlt2 : z ≤ (q5 : Int)
          · go_wp2_with fail
            have hstep := step_c (k := 2) (i := z) (at_ := 0) (m := 0) HTT.out hb (RdB.nil w) (by omega) (by omega) (by omega)
            rw [show ((0 : Nat) : Int) = 0 from rfl] at hstep
            refine hstep.mono ?_
            rintro e w5 ⟨rfl, hs5, F5, G5, st5, h5⟩
            have HF := Lib.hid h5
            clear h5 hstep
            go_wp2
            go_roundw
            case rel => exact ⟨z + 1, F5, G5, st5, by omega, by omega, by go_num, HF.out⟩
            case measure =>
              show 2000 - (z + 1 + 1).toNat < 2000 - (z + 1).toNat
              omega
          · go_wp2
            go_ret
            exact ⟨rfl, HTT.out.kp⟩
end Go.Proofs.YteokkpmndfekoaaDoor
