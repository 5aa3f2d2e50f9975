/- The document's disk: Crash. -/
import Derived.Test.YthkbgbbejgpeaaaYE
namespace Go.Proofs.Ythkbgbbejgpeaaa
open Go Go.RowKit
set_option maxRecDepth 100000

/-- behind q rounds of a Crash -/
def crR (d : Dk) (ch : List Int) (q : Nat) : Dk := ⟨d.n, fun i => if i < q then (effD d i (ch.getD (rankD d i) 0)).1 else d.du i, fun i => if i < q then (effD d i (ch.getD (rankD d i) 0)).2 else d.to i, fun i => if i < q then [] else d.ca i, d.off, d.fuse⟩
theorem crR_zero (d : Dk) (ch : List Int) (i : Nat) : (crR d ch 0).du i = d.du i ∧ (crR d ch 0).to i = d.to i ∧ (crR d ch 0).ca i = d.ca i := by simp [crR]
theorem crR_clean (d : Dk) (ch : List Int) (q i : Nat) (hc : d.ca q = []) : (crR d ch (q + 1)).du i = (crR d ch q).du i ∧ (crR d ch (q + 1)).to i = (crR d ch q).to i ∧ (crR d ch (q + 1)).ca i = (crR d ch q).ca i := by
  by_cases hiq : i = q
  · subst hiq
    simp [crR, hc, effD]
  · have : (i < q + 1) = (i < q) := by apply propext; omega
    simp [crR, this]
theorem crR_step (d : Dk) (ch : List Int) (q i : Nat) (x : List UInt8) (t : Bool) (he : effD d q (ch.getD (rankD d q) 0) = (x, t)) :
    (crR d ch (q + 1)).du i = upd (crR d ch q).du q x i ∧ (crR d ch (q + 1)).to i = upd (crR d ch q).to q t i ∧ (crR d ch (q + 1)).ca i = upd (crR d ch q).ca q [] i := by
  by_cases hiq : i = q
  · subst hiq
    rw [upd_same, upd_same, upd_same]
    refine ⟨?_, ?_, if_pos (by omega)⟩
    · show (if i < i + 1 then (effD d i (ch.getD (rankD d i) 0)).1 else _) = x
      rw [if_pos (by omega), he]
    · show (if i < i + 1 then (effD d i (ch.getD (rankD d i) 0)).2 else _) = t
      rw [if_pos (by omega), he]
  · have : (i < q + 1) = (i < q) := by apply propext; omega
    rw [upd_ne _ _ hiq, upd_ne _ _ hiq, upd_ne _ _ hiq]
    simp [crR, this]
def CrRel (w : World) (F : Nat → Prop) (g b : Nat) (d : Dk) (ch : List Int) (k i : Value) (wr : World) : Prop := ∃ (q : Nat) (tv vv : Nat → Value) (vs : Nat → List (Value × List UInt8)), q ≤ d.n ∧ k = .int .i64 (rankD d q : Nat) ∧ i = .int .i64 q ∧ RefM wr F g b tv vv vs (crR d ch q) ∧ Kp (fun m => m = b) w wr
theorem rank_le (d : Dk) (q : Nat) : rankD d q ≤ q := by
  unfold rankD
  have : ((List.range q).filter fun i => !(d.ca i).isEmpty).length ≤ (List.range q).length := List.length_filter_le _ _
  simpa using this
def RDoP (w : World) (F : Nat → Prop) (g : Nat) (d : Dk) (e : Ending) (w' : World) : Prop := (∃ u, e = .returned u) ∧ RefX w' F g d ∧ Kp F w w'
theorem run_buildT {a : Act} {dst : Option Tmp} {ty : TypeId} {pos : String} {af : Array Edge} {gd : Option (Nat × Bool)} {w : World} :
    (execOp a.eval { dst := dst, op := .build 96 #[(1, .const (.bool true))], type := ty, pos := pos, after := af, guard := gd }).run Try.prog w = .ok (.value (.agg #[.slice none 0 0, .bool true, .slice none 0 0])) w := by
  kernel_rfl
section
variable {w : World} {F : Nat → Prop} {g b : Nat} {tv vv : Nat → Value} {vs : Nat → List (Value × List UInt8)} {d : Dk}
set_option maxHeartbeats 6400000 in
theorem crash_r (h : RefM w F g b tv vv vs d) {A : Option Addr} {n c : Nat} {ch : List Int} (hch : RdI w (.slice A n c) ch) (hsep : ch ≠ [] → ∀ m, (Value.slice A n c).ownBlock = some m → ¬ F m) (hnm : n ≤ 1000000000) :
    Calls Try.prog 72 #[.pointer (some ⟨g, 0, none⟩), .slice A n c] w (RDoP w F g (crashD d ch)) := by
  have n1 := h.n1
  have n2 := h.n2
  have hn : n = ch.length := rdI_len hch
  have HCH := Lib.hid hch
  have HSEP := Lib.hid hsep
  have HN := Lib.hid hn
  clear hch hsep hn
  go_enter Try.func72, Try.ntmps72
  go_wp2_with fail
  refine (none_r h).mono ?_
  rintro e w2 ⟨rfl, rfl⟩
  have H3 := Lib.hid (h.cong (d' := crR d ch 0) rfl (fun i _ => crR_zero d ch i) ⟨rfl, rfl⟩)
  have hfb := h.fit.2
  have hfg := h.fit.1
  clear h
  go_wp2_with fail
  go_loopw [4, 5] (fun k i wr => CrRel w F g b d ch k i wr) (fun _ i _ => d.n - (intOf i).toNat)
  case atStart => exact ⟨0, _, _, _, Nat.zero_le _, rfl, rfl, H3.out, Kp.refl _ _⟩
  case round =>
    obtain ⟨q, tv1, vv1, vs1, hq, rfl, rfl, hr, hk⟩ := hrel
    have c0 : wr.cell? ⟨g, 0, none⟩ = some (.slice (some ⟨b, 0, none⟩) d.n d.n) := hr.c0
    have hrk := rank_le d q
    by_cases hlt : q < d.n
    · have hqf : q < (crR d ch q).n := hlt
      have hca : (crR d ch q).ca q = d.ca q := if_neg (Nat.lt_irrefl q)
      have hdu : (crR d ch q).du q = d.du q := if_neg (Nat.lt_irrefl q)
      have hto : (crR d ch q).to q = d.to q := if_neg (Nat.lt_irrefl q)
      obtain ⟨VA, VC, hvv⟩ := hr.formV hqf
      have t2 := hr.t2 q hqf
      rw [hvv, hca] at t2
      obtain ⟨LL, hLL⟩ : ∃ LL, (d.ca q).length = LL := ⟨_, rfl⟩
      rw [hLL] at t2
      have hrs := rank_succ d q
      by_cases hc : d.ca q = []
      · have hL0 : LL = 0 := by rw [← hLL, hc]; rfl
        subst hL0
        have hrs : rankD d (q + 1) = rankD d q := by rw [hrs, if_pos hc]; rfl
        have hfin : CrRel w F g b d ch (.int .i64 (rankD d q : Nat)) (.int .i64 ((q : Int) + 1)) wr := ⟨q + 1, _, _, _, by omega, by rw [hrs], by go_num, hr.cong rfl (fun i _ => crR_clean d ch q i hc) ⟨rfl, rfl⟩, hk⟩
        have HF := Lib.hid hfin
        clear hfin hr hvv hca hdu hto hLL hc hrs
        go_wp2_with fail
        exact ⟨HF.out, meas_up hlt⟩
      · rw [if_neg hc] at hrs
        have hLp : 0 < LL := by rw [← hLL]; exact List.length_pos_iff.2 hc
        have hLe : ((LL : Int) == 0) = false := by simp; omega
        have hMb := (hr.vx q hqf).row.bound
        rw [hr.lenV hqf, hca, hLL] at hMb
        obtain ⟨z, hz⟩ : ∃ z, ch.getD (rankD d q) 0 = z := ⟨_, rfl⟩
        -- what comes behind each arm
        have harm0 : z = 0 → CrRel w F g b d ch (.int .i64 ((rankD d q : Nat) + 1)) (.int .i64 ((q : Int) + 1)) (wr.setCell ⟨b, q * 3 + 2, none⟩ (.slice none 0 0)) := fun hz0 => by
          refine ⟨q + 1, _, _, _, by omega, by rw [hrs]; go_num, by go_num, (hr.drop2 hqf).cong rfl (fun i _ => crR_step d ch q i _ _ ?_) ⟨rfl, rfl⟩, hk.setCell (p := ⟨b, q * 3 + 2, none⟩) (.inl rfl) _⟩
          rw [hz, hz0, effD, if_pos (.inr rfl), hdu, hto]
        have harm2 : z ≠ 0 → ¬ (0 < z ∧ z ≤ (LL : Int)) → CrRel w F g b d ch (.int .i64 ((rankD d q : Nat) + 1)) (.int .i64 ((q : Int) + 1)) (wr.setCells b (q * 3) [.slice none 0 0, .bool true, .slice none 0 0]) := fun hz0 hz1 => by
          have hput := hr.put3 hqf (.slice none 0 0) true (x := zsec) zsec_len (.inl ⟨rfl, rfl⟩) (fun m hm => by cases hm)
          refine ⟨q + 1, _, _, _, by omega, by rw [hrs]; go_num, by go_num, hput.cong rfl (fun i _ => crR_step d ch q i _ _ ?_) ⟨rfl, rfl⟩, hk.trans (Kp.setCells b _ (q * 3) wr) (fun _ _ x => x) (fun _ _ x => x)⟩
          rw [hz, effD, if_neg (by rintro (e | e); exact hc e; exact hz0 e), if_neg (by rw [hLL]; exact hz1)]
        have harm1 : ∀ p : Nat, z = ((p + 1 : Nat) : Int) → p < LL → ∃ gv uA uc, vv1 q = .slice (some ⟨gv, 0, none⟩) LL VC ∧ gv < wr.heap.size ∧ wr.cell? ⟨gv, p, none⟩ = some (.slice uA 128 uc) ∧ ∀ w4, KpN wr w4 → RefM w4 F g b tv1 vv1 vs1 (crR d ch q) ∧ w4.cell? ⟨b, q * 3 + 2, none⟩ = some (.slice (some ⟨gv, 0, none⟩) LL VC) ∧ w4.cell? ⟨gv, p, none⟩ = some (.slice uA 128 uc) ∧ w4.there b (q * 3) 3 ∧ CrRel w F g b d ch (.int .i64 ((rankD d q : Nat) + 1)) (.int .i64 ((q : Int) + 1)) (w4.setCells b (q * 3) [.slice uA 128 uc, .bool false, .slice none 0 0]) := fun p hp hpL => by
          obtain ⟨gv, cv, u, hv, hgg, hgb, hgl, hcu, hou, hsu⟩ := hr.verAt hqf p (by rw [hca, hLL]; omega)
          have hv2 := hv
          rw [hvv] at hv2
          injection hv2 with e1 e2 e3
          rw [hca, hLL] at hv
          obtain ⟨uA, uc, hu, -⟩ := hou.readsB.form
          have h128 := hr.clen q hqf _ (List.getElem_mem (l := (crR d ch q).ca q) (n := p) (by rw [hca, hLL]; omega))
          obtain ⟨s, hs⟩ : ∃ s, ((crR d ch q).ca q)[p]'(by rw [hca, hLL]; omega) = s := ⟨_, rfl⟩
          have hat : (d.ca q).getD p [] = s := by
            have e0 : ((crR d ch q).ca q)[p]? = some s := by rw [← hs]; exact List.getElem?_eq_getElem _
            rw [hca] at e0
            rw [List.getD_eq_getElem?_getD, e0]
            rfl
          rw [hs] at hou hu h128
          rw [h128] at hu
          subst hu
          rw [hvv, hca, hLL] at hv
          rw [hca, hLL] at hvv
          refine ⟨gv, uA, uc, by rw [hvv]; exact congrArg (fun a => Value.slice a LL VC) e1, hgl, hcu, fun w4 d4 => ?_⟩
          have h4 := hr.keepN d4
          have hput := h4.put3 hqf (.slice uA 128 uc) false (x := s) h128 (.inr ⟨rfl, hou.keepN d4⟩) hsu
          have kput := Kp.setCells b [.slice uA 128 uc, .bool false, .slice none 0 0] (q * 3) w4
          refine ⟨h4, ?_, ?_, h4.there hqf, q + 1, _, _, _, by omega, by rw [hrs]; go_num, by go_num, hput.cong rfl (fun i _ => crR_step d ch q i _ _ ?_) ⟨rfl, rfl⟩, (hk.thenN d4).trans kput (fun _ _ x => x) (fun _ _ x => x)⟩
          · rw [d4.cell (p := ⟨b, q * 3 + 2, none⟩) hr.lt.2 (fun x => x), t2, e1]
          · rw [d4.cell (p := ⟨gv, p, none⟩) hgl (fun x => x)]; exact hcu
          · rw [hz, effD, if_neg (by rintro (e | e); exact hc e; omega), if_pos (by rw [hLL]; omega)]
            rw [show z.toNat - 1 = p by omega, hat]
        have hth := hr.there hqf
        have hbz := hr.bz (q * 3 + 2)
        have hlt1 := hr.lt
        have HA0 := Lib.hid harm0
        have HA1 := Lib.hid harm1
        have HA2 := Lib.hid harm2
        have hcw : RdI wr (.slice A n c) ch := by
          rcases Nat.eq_zero_or_pos ch.length with h0 | h0
          · have h00 : ch = [] := List.eq_nil_of_length_eq_zero h0
            subst h00
            obtain ⟨_, A2, c2, hv2, hc2, _⟩ := HCH.out
            exact ⟨rfl, A2, c2, hv2, hc2, fun j u hu => by simp at hu⟩
          · exact RdC.keep HCH.out hk (fun m hm e => HSEP.out (fun e0 => by rw [e0] at h0; simp at h0) m hm (by rw [e]; exact hfb))
        have HTH := Lib.hid hth
        clear harm0 harm1 harm2 hr hvv hca hdu hto hLL hc hrs hth
        obtain ⟨R, hR⟩ : ∃ R, rankD d q = R := ⟨_, rfl⟩
        rw [hR] at hrk hz HA0 HA1 HA2 ⊢
        clear hR
        have HCW := Lib.hid hcw
        clear hcw
        by_cases hRn : R < n
        · obtain ⟨ad, rfl, hcc⟩ := rdI_at HCW.out R (by rw [← HN.out]; exact hRn)
          have hzz : ch[R]'(by rw [← HN.out]; exact hRn) = z := by
            rw [← hz, List.getD_eq_getElem?_getD, List.getElem?_eq_getElem (by rw [← HN.out]; exact hRn)]
            rfl
          rw [hzz] at hcc
          clear hz hzz
          by_cases hz0 : z = 0
          · subst hz0
            have HF := Lib.hid (HA0.out rfl)
            clear HA0 HA1 HA2
            go_wp2_with fail
            exact ⟨HF.out, meas_up hlt⟩
          · have hze : (z == 0) = false := by simpa using hz0
            by_cases hzp : 0 < z ∧ z ≤ (LL : Int)
            · obtain ⟨p, rfl⟩ : ∃ p : Nat, z = ((p + 1 : Nat) : Int) := ⟨z.toNat - 1, by omega⟩
              have hpL : p < LL := by omega
              obtain ⟨gv, uA, uc, hv, hgl, hcu, hend⟩ := HA1.out p rfl hpL
              have HE := Lib.hid hend
              have hsub : IntKind.i64.wrap (p : Int) = (p : Int) := IntWalk.i64_in _ (by omega)
              have hMM : ((LL : Int) ≤ (p : Int)) = False := propext ⟨fun h => by omega, fun h => h.elim⟩
              have hz1 : (0 < (((p + 1 : Nat)) : Int)) := by omega
              have hz2 : ((((p + 1 : Nat)) : Int) ≤ (LL : Int)) := by omega
              clear hend HA0 HA1 HA2 hz0
              go_wp2_with fail
              refine rg_begin 19 (fun _ => False) (by kernel_rfl) (fun w4 d4 => ?_)
              obtain ⟨h4, e24, eu4, eth, efin⟩ := HE.out w4 d4
              have hgl4 : gv < w4.heap.size := by have := d4.size; omega
              have c04 : w4.cell? ⟨g, 0, none⟩ = some (.slice (some ⟨b, 0, none⟩) d.n d.n) := h4.c0
              refine rg_take 0 (d := (some 65)) (v := .pointer (some ⟨g, 0, none⟩)) (by decide) rfl rfl (by kernel_rfl) (by kernel_rfl) (by kernel_rfl) (fun _ _ _ h => h) rfl (fun W => rfl) ?_
              conv => arg 8; simp only [Act.put, List.setIfInBounds_toArray, List.set_cons_zero, List.set_cons_succ]
              refine rg_take 1 (d := (some 66)) (v := .pointer (some ⟨g, 0, none⟩)) (by decide) rfl rfl (by kernel_rfl) (by kernel_rfl) (by kernel_rfl) (fun _ _ _ h => h) rfl (fun W => by go_simp) ?_
              conv => arg 8; simp only [Act.put, List.setIfInBounds_toArray, List.set_cons_zero, List.set_cons_succ]
              refine rg_take 2 (d := (some 67)) (v := .pointer (some ⟨g, 0, none⟩)) (by decide) rfl rfl (by kernel_rfl) (by kernel_rfl) (by kernel_rfl) (fun _ _ _ h => h) rfl (fun W => by go_simp) ?_
              conv => arg 8; simp only [Act.put, List.setIfInBounds_toArray, List.set_cons_zero, List.set_cons_succ]
              refine rg_read 3 (d := (some 68)) (v := .slice (some ⟨b, 0, none⟩) d.n d.n) (by decide) (by kernel_rfl) (by kernel_rfl) rfl rfl (by kernel_rfl) (by kernel_rfl) (by kernel_rfl) (fun _ _ _ h => h) rfl (fun W hW => by have hc := (hW.cell (p := ⟨g, 0, none⟩) (h4.lt.1) (fun x => x)).trans (c04); go_simp) ?_
              conv => arg 8; simp only [Act.put, List.setIfInBounds_toArray, List.set_cons_zero, List.set_cons_succ]
              refine rg_take 4 (d := (some 69)) (v := .int .i64 q) (by decide) rfl rfl (by kernel_rfl) (by kernel_rfl) (by kernel_rfl) (fun _ _ _ h => h) rfl (fun W => rfl) ?_
              conv => arg 8; simp only [Act.put, List.setIfInBounds_toArray, List.set_cons_zero, List.set_cons_succ]
              refine rg_take 5 (d := (some 70)) (v := .pointer (some ⟨g, 0, none⟩)) (by decide) rfl rfl (by kernel_rfl) (by kernel_rfl) (by kernel_rfl) (fun _ _ _ h => h) rfl (fun W => rfl) ?_
              conv => arg 8; simp only [Act.put, List.setIfInBounds_toArray, List.set_cons_zero, List.set_cons_succ]
              refine rg_take 6 (d := (some 71)) (v := .pointer (some ⟨g, 0, none⟩)) (by decide) rfl rfl (by kernel_rfl) (by kernel_rfl) (by kernel_rfl) (fun _ _ _ h => h) rfl (fun W => by go_simp) ?_
              conv => arg 8; simp only [Act.put, List.setIfInBounds_toArray, List.set_cons_zero, List.set_cons_succ]
              refine rg_take 7 (d := (some 72)) (v := .pointer (some ⟨g, 0, none⟩)) (by decide) rfl rfl (by kernel_rfl) (by kernel_rfl) (by kernel_rfl) (fun _ _ _ h => h) rfl (fun W => by go_simp) ?_
              conv => arg 8; simp only [Act.put, List.setIfInBounds_toArray, List.set_cons_zero, List.set_cons_succ]
              refine rg_read 8 (d := (some 73)) (v := .slice (some ⟨b, 0, none⟩) d.n d.n) (by decide) (by kernel_rfl) (by kernel_rfl) rfl rfl (by kernel_rfl) (by kernel_rfl) (by kernel_rfl) (fun _ _ _ h => h) rfl (fun W hW => by have hc := (hW.cell (p := ⟨g, 0, none⟩) (h4.lt.1) (fun x => x)).trans (c04); go_simp) ?_
              conv => arg 8; simp only [Act.put, List.setIfInBounds_toArray, List.set_cons_zero, List.set_cons_succ]
              refine rg_take 9 (d := (some 74)) (v := .int .i64 q) (by decide) rfl rfl (by kernel_rfl) (by kernel_rfl) (by kernel_rfl) (fun _ _ _ h => h) rfl (fun W => rfl) ?_
              conv => arg 8; simp only [Act.put, List.setIfInBounds_toArray, List.set_cons_zero, List.set_cons_succ]
              refine rg_take 10 (d := (some 75)) (v := .pointer (some ⟨b, q * 3, none⟩)) (by decide) rfl rfl (by kernel_rfl) (by kernel_rfl) (by kernel_rfl) (fun _ _ _ h => h) rfl (fun W => by go_simp) ?_
              conv => arg 8; simp only [Act.put, List.setIfInBounds_toArray, List.set_cons_zero, List.set_cons_succ]
              refine rg_take 11 (d := (some 76)) (v := .pointer (some ⟨b, q * 3 + 2, none⟩)) (by decide) rfl rfl (by kernel_rfl) (by kernel_rfl) (by kernel_rfl) (fun _ _ _ h => h) rfl (fun W => by go_simp) ?_
              conv => arg 8; simp only [Act.put, List.setIfInBounds_toArray, List.set_cons_zero, List.set_cons_succ]
              refine rg_read 12 (d := (some 77)) (v := .slice (some ⟨gv, 0, none⟩) LL VC) (by decide) (by kernel_rfl) (by kernel_rfl) rfl rfl (by kernel_rfl) (by kernel_rfl) (by kernel_rfl) (fun _ _ _ h => h) rfl (fun W hW => by have hc := (hW.cell (p := ⟨b, q * 3 + 2, none⟩) (h4.lt.2) (fun x => x)).trans (e24); go_simp) ?_
              conv => arg 8; simp only [Act.put, List.setIfInBounds_toArray, List.set_cons_zero, List.set_cons_succ]
              refine rg_take 13 (d := (some 78)) (v := .int .i64 (p + 1 : Nat)) (by decide) rfl rfl (by kernel_rfl) (by kernel_rfl) (by kernel_rfl) (fun _ _ _ h => h) rfl (fun W => rfl) ?_
              conv => arg 8; simp only [Act.put, List.setIfInBounds_toArray, List.set_cons_zero, List.set_cons_succ]
              refine rg_take 14 (d := (some 79)) (v := .int .i64 p) (by decide) rfl rfl (by kernel_rfl) (by kernel_rfl) (by kernel_rfl) (fun _ _ _ h => h) rfl (fun W => by go_simp) ?_
              conv => arg 8; simp only [Act.put, List.setIfInBounds_toArray, List.set_cons_zero, List.set_cons_succ]
              refine rg_take 15 (d := (some 80)) (v := .pointer (some ⟨gv, p, none⟩)) (by decide) rfl rfl (by kernel_rfl) (by kernel_rfl) (by kernel_rfl) (fun _ _ _ h => h) rfl (fun W => by go_simp) ?_
              conv => arg 8; simp only [Act.put, List.setIfInBounds_toArray, List.set_cons_zero, List.set_cons_succ]
              refine rg_read 16 (d := (some 81)) (v := .slice uA 128 uc) (by decide) (by kernel_rfl) (by kernel_rfl) rfl rfl (by kernel_rfl) (by kernel_rfl) (by kernel_rfl) (fun _ _ _ h => h) rfl (fun W hW => by have hc := (hW.cell (p := ⟨gv, p, none⟩) (hgl4) (fun x => x)).trans (eu4); go_simp) ?_
              conv => arg 8; simp only [Act.put, List.setIfInBounds_toArray, List.set_cons_zero, List.set_cons_succ]
              refine rg_take 17 (d := (some 82)) (v := .agg #[.slice uA 128 uc, .bool false, .slice none 0 0]) (by decide) rfl rfl (by kernel_rfl) (by kernel_rfl) (by kernel_rfl) (fun _ _ _ h => h) rfl (fun W => run_buildS rfl) ?_
              conv => arg 8; simp only [Act.put, List.setIfInBounds_toArray, List.set_cons_zero, List.set_cons_succ]
              refine rg_take 18 (d := (some 83)) (v := .pointer (some ⟨b, q * 3, none⟩)) (by decide) rfl rfl (by kernel_rfl) (by kernel_rfl) (by kernel_rfl) (fun _ _ _ h => h) rfl (fun W => by go_simp) ?_
              conv => arg 8; simp only [Act.put, List.setIfInBounds_toArray, List.set_cons_zero, List.set_cons_succ]
              refine rg_lastS (G := fun _ => True) (w4.setCells b (q * 3) [.slice uA 128 uc, .bool false, .slice none 0 0]) (d := none) rfl rfl (by kernel_rfl) rfl (run_store_op (run_put3 w4 b (q * 3) false eth) rfl rfl) (by kernel_rfl) ?_
              conv => arg 8; simp only [Act.put, List.setIfInBounds_toArray, List.set_cons_zero, List.set_cons_succ]
              refine rg_done (by kernel_rfl) ?_
              have HF := Lib.hid efin
              clear efin eth eu4 e24 h4
              generalize w4.setCells b (q * 3) [.slice uA 128 uc, .bool false, .slice none 0 0] = w5 at HF ⊢
              go_wp2_with fail
              exact ⟨HF.out, meas_up hlt⟩
            · have hst := run_put3 wr b (q * 3) (A := none) (n := 0) (c := 0) true HTH.out
              have HF := Lib.hid (HA2.out hz0 hzp)
              obtain ⟨w5, hw5⟩ : ∃ w5, wr.setCells b (q * 3) [.slice none 0 0, .bool true, .slice none 0 0] = w5 := ⟨_, rfl⟩
              rw [hw5] at hst HF
              clear HA0 HA1 HA2 hw5
              by_cases hz1 : 0 < z
              all_goals
                have hz2 : ¬ (0 < z ∧ z ≤ (LL : Int)) := hzp
                clear hzp
                go_wp2_with (first
                  | ((with_reducible show wpList _ _ _ (Oper.mk _ (Op.build 96 _) _ _ _ _ :: _) _ _); refine wpl_val rfl run_buildT ?_)
                  | ((with_reducible show wpList _ _ _ (Oper.mk _ (Op.store 96 _ _) _ _ _ _ :: _) _ _); refine wpl_skip rfl (run_store_op hst rfl rfl) ?_))
                exact ⟨HF.out, meas_up hlt⟩
        · have hz0 : z = 0 := by
            rw [← hz, List.getD_eq_getElem?_getD, List.getElem?_eq_none (by rw [← HN.out]; omega)]
            rfl
          have HF := Lib.hid (HA0.out hz0)
          clear HA0 HA1 HA2 hz
          go_wp2_with fail
          exact ⟨HF.out, meas_up hlt⟩
    · have hqn : q = d.n := by omega
      have hfin : RefM ((wr.setCell ⟨g, 1, none⟩ (.bool false)).setCell ⟨g, 2, none⟩ (.int .i64 (-1))) F g b tv1 vv1 vs1 (crashD d ch) := by
        refine ((hr.setOff false).setFuse (-1) (by omega)).cong (crashD_n d ch) (fun i hi => ?_) ⟨rfl, rfl⟩
        have hi : i < d.n := hi
        have hca := crash_at d ch i hi
        have hiq : i < q := by omega
        refine ⟨?_, ?_, ?_⟩
        · show _ = if i < q then (effD d i (ch.getD (rankD d i) 0)).1 else _
          rw [if_pos hiq, ← hca]
        · show _ = if i < q then (effD d i (ch.getD (rankD d i) 0)).2 else _
          rw [if_pos hiq, ← hca]
        · show _ = if i < q then [] else _
          rw [if_pos hiq, crashD_ca]
      have c1 := hr.c1
      have c2 := hr.c2
      have f1 := hr.fz 1
      have f2 := hr.fz 2
      have kw := (kp1_set (w := wr) (F := fun i => i = g) rfl 1 (.bool false)).trans (kp1_set (F := fun i => i = g) rfl 2 (.int .i64 (-1))) (U := fun i => i = g) (fun _ _ x => x) (fun _ _ x => x)
      have hF : ∀ u, RDoP w F g (crashD d ch) (.returned u) ((wr.setCell ⟨g, 1, none⟩ (.bool false)).setCell ⟨g, 2, none⟩ (.int .i64 (-1))) := fun u => ⟨⟨u, rfl⟩, ⟨b, _, _, _, hfin⟩, (hk.mono (U := F) (fun m _ e => by rw [e]; exact hfb)).trans kw (fun _ _ x => x) (fun m _ e => by rw [e]; exact hfg)⟩
      have HF := Lib.hid hF
      clear hF kw hfin hr
      go_wp2_with fail
      go_end0
      exact HF.out _
end
end Go.Proofs.Ythkbgbbejgpeaaa
