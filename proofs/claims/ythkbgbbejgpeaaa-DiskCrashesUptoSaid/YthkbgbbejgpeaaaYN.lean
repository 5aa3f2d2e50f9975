/- The statements against the document's disk: what they read; played. -/
import Derived.Test.YthkbgbbejgpeaaaYLC
import Derived.Test.YthkbgbbejgpeaaaYLW
import Derived.Test.YthkbgbbejgpeaaaYM
import Derived.Test.YthkbgbbejgpeaaaYKB
namespace Go.Proofs.Ythkbgbbejgpeaaa
open Go Go.RowKit Go.ChangeShapes Go.WideShapes Go.ChangeAt
set_option maxRecDepth 100000

def byteRd : Rd 5 Int := intRd .u8 5 Try.underlying5 (by kernel_rfl)
def rawRd : Rd 28 (List UInt8) := bytesRd 28 Try.underlying28 (by kernel_rfl)
def opRd : Rd 100 (Int × Int × Int × Int × List UInt8 × List Int × Unit) :=
  structRd _ Try.underlying100 (consFds i64Rd rfl (consFds i64Rd rfl (consFds byteRd rfl (consFds i64Rd rfl (consFds rawRd rfl (consFds intsRd rfl (nilFds _))))))) (by kernel_rfl)
def opsRd : Rd 80 (List (Int × Int × Int × Int × List UInt8 × List Int × Unit)) := sliceRd opRd _ Try.underlying80 (by kernel_rfl)
def startRd : Rd 40 (List UInt8 × Int × Unit) :=
  structRd _ Try.underlying40 (consFds rawRd rfl (consFds i64Rd rfl (nilFds _))) (by kernel_rfl)
def mkOp (x : Int × Int × Int × Int × List UInt8 × List Int × Unit) : DOp := ⟨x.1, x.2.1, UInt8.ofNat x.2.2.1.toNat, x.2.2.2.1, x.2.2.2.2.1, x.2.2.2.2.2.1⟩
def RdOps (w : World) (v : Value) (l : List DOp) : Prop := SlAt w 6 DOpAt v l
theorem RdOps.keepN {w w' : World} {v : Value} {l : List DOp} (h : RdOps w v l) (k : KpN w w') : RdOps w' v l := SlAt.keep h k (fun h k => h.keep k)
def opSize (o : DOp) : Nat := o.raw.length + o.ch.length + 6
def opsSize (l : List DOp) : Nat := (l.map opSize).sum
theorem opsSize_len (l : List DOp) : l.length ≤ opsSize l := by
  unfold opsSize
  induction l with
  | nil => simp
  | cons a r ih => simp only [List.map_cons, List.sum_cons, List.length_cons, opSize] at ih ⊢; omega
theorem opsSize_mem (l : List DOp) (o : DOp) (h : o ∈ l) : opSize o ≤ opsSize l := by
  unfold opsSize
  induction l with
  | nil => cases h
  | cons a r ih =>
    simp only [List.map_cons, List.sum_cons]
    rcases List.mem_cons.1 h with rfl | h
    · omega
    · have := ih h
      omega
section
variable {H : Type} {enc : TypeId × Value → H} {W : World} {base : Nat} {sp : Nat → Bool} {held : Bool} {a : Option Addr} {len cap : Nat} {d : DataW H} {p : List MemPlace}
theorem open_dops (h0 : DataW.Trod enc Try.prog W base sp held 80 (.slice a len cap) d p) : ∃ l : List DOp, RdOps W (.slice a len cap) l ∧ opsSize l ≤ Rows.uptoBulk d := by
  obtain ⟨rl, ⟨v, hv, hs⟩, hb⟩ := opsRd.open_ h0
  obtain rfl : Value.slice a len cap = v := by simpa [Value.cells] using hv
  refine ⟨rl.map mkOp, hs.map _ (fun cs y hy => ?_), ?_⟩
  · obtain ⟨c1, c2, rfl, ⟨rfl, w1⟩, c3, c4, rfl, ⟨rfl, w2⟩, c5, c6, rfl, ⟨rfl, w3⟩, c7, c8, rfl, ⟨rfl, w4⟩, c9, c10, rfl, ⟨rv, rfl, hrv⟩, c11, c12, rfl, ⟨cv, rfl, hcv⟩, h6⟩ := hy
    obtain rfl : c12 = [] := h6
    have := ints_of hcv
    have hu := u8_wf w3
    refine ⟨⟨rv, cv, ?_, hrv, this.1⟩, i64_I w1, i64_I w2, i64_I w4, this.2⟩
    have e : bv (UInt8.ofNat y.2.2.1.toNat) = .int .u8 y.2.2.1 := by
      have : y.2.2.1.toNat < 256 := by omega
      simp [bv, Nat.mod_eq_of_lt this]
      omega
    show _ = [Value.int .i64 y.1, .int .i64 y.2.1, bv (UInt8.ofNat y.2.2.1.toNat), .int .i64 y.2.2.2.1, rv, cv]
    rw [e]
    rfl
  · have hsz : ∀ x, opRd.size x = opSize (mkOp x) := fun x => by
      show 1 + (1 + (1 + (1 + ((x.2.2.2.2.1.length + 1) + (intsRd.size x.2.2.2.2.2.1 + 0))))) = _
      rw [intsRd_size]
      simp only [opSize, mkOp]
      omega
    have hbk : opsRd.size rl = (rl.map opRd.size).sum + 1 := rfl
    rw [hbk] at hb
    have : opsSize (rl.map mkOp) = (rl.map opRd.size).sum := by
      unfold opsSize
      rw [List.map_map]
      congr 1
      apply List.map_congr_left
      intro x _
      rw [hsz]
      rfl
    omega
theorem open_start {v : Value} (h0 : DataW.Trod enc Try.prog W base sp held 40 v d p) : ∃ (iv : Value) (img : List UInt8) (s : Int), v.cells.toList = [iv, .int .i64 s] ∧ RdB W iv img ∧ I64 s ∧ img.length ≤ Rows.uptoBulk d := by
  obtain ⟨x, hx, hb⟩ := startRd.open_ h0
  obtain ⟨c1, c2, hv, ⟨iv, rfl, hiv⟩, c3, c4, rfl, ⟨rfl, w1⟩, h6⟩ := hx
  obtain rfl : c4 = [] := h6
  have hsz : startRd.size x = (x.1.length + 1) + (1 + 0) := rfl
  exact ⟨iv, x.1, x.2.1, by simpa using hv, hiv, i64_I w1, by omega⟩
end
theorem TwoM.base {w0 w1 w : World} {F G : Nat → Prop} {g r k : Nat} {d e : Dk} (h : TwoM w1 w F G g r k d e) (kb : KpN w0 w1) : TwoM w0 w F G g r k d e :=
  ⟨h.dk, h.rf, kb.thenN h.kp, fun x hx => ⟨by have := (h.fl x hx).1; have := kb.size; omega, (h.fl x hx).2⟩, fun x hx => ⟨by have := (h.gl x hx).1; have := kb.size; omega, (h.gl x hx).2⟩, h.dj⟩
theorem acts_c {w0 w : World} {F G : Nat → Prop} {g r k : Nat} {d : Dk} (h : TwoM w0 w F G g r k d d) (hk : k ≤ 900000000) {o : DOp} {rA cA : Option Addr} {rc CN cc RN : Nat} (hi : I64 o.i) (hr : RdB w0 (.slice rA RN rc) o.raw) (hch : RdI w0 (.slice cA CN cc) o.ch) (hrl : o.raw.length ≤ 10000000) (hcl : o.ch.length ≤ 10000000) :
    Calls Try.prog 61 #[.agg #[.int .i64 o.k, .int .i64 o.i, bv o.b, .int .i64 o.sz, .slice rA RN rc, .slice cA CN cc], .pointer (some ⟨g, 0, none⟩), .pointer (some ⟨r, 0, none⟩)] w (ActP w0 w F G g r k (actD d o)) := by
  obtain ⟨ok, oi, b, sz, raw, ch⟩ := o
  by_cases h1 : ok = 1
  · subst h1
    exact acts_write h hk hi hr hch hrl
  · by_cases h4 : ok = 4
    · subst h4
      exact acts_crash h hk hch hcl
    · exact acts_other h hi h1 h4
theorem flush_n' (d : Dk) : (flushD d).2.n = d.n := flush_n d
def PlRel (w0 : World) (g r : Nat) (L : Nat) (i : Value) (wr : World) : Prop := ∃ (q k : Nat) (F G : Nat → Prop) (d : Dk), q ≤ L ∧ i = .int .i64 q ∧ k ≤ q ∧ TwoM w0 wr F G g r k d d
set_option maxHeartbeats 6400000 in
theorem played_c {w : World} {iv va : Value} {img : List UInt8} {s which : Int} {l : List DOp} (hi : RdB w iv img) (hil : img.length ≤ 10000000) (hs : I64 s) (ha : RdOps w va l) (hla : opsSize l ≤ 10000000) :
    Calls Try.prog 46 #[.agg #[iv, .int .i64 s], va, .int .i64 which] w (TrueP w) := by
  obtain ⟨iA, ic, rfl, -⟩ := hi.form
  obtain ⟨aA, ac, rfl, -⟩ := SlAt.form ha
  obtain ⟨IL, hIL⟩ : ∃ IL, img.length = IL := ⟨_, rfl⟩
  obtain ⟨L, hL⟩ : ∃ L, l.length = L := ⟨_, rfl⟩
  have hll := opsSize_len l
  rw [hIL] at hi hil ⊢
  rw [hL] at ha hll ⊢
  have kb := (Kp.refl (fun _ => False) w).alloc (.cells #[.slice iA IL ic, .int .i64 s] 40)
  have hbx : ∀ j v, #[Value.slice iA IL ic, .int .i64 s][j]? = some v → (w.alloc (.cells #[.slice iA IL ic, .int .i64 s] 40)).cell? ⟨w.heap.size, j, none⟩ = some v := fun j v hj => by
    rw [cell_of_row _ _ _ _ _ _ (heap_alloc_new _ _)]
    exact hj
  have b0 := hbx 0 _ rfl
  have b1 := hbx 1 _ rfl
  have HI := Lib.hid (hi.keepN kb)
  have HL := Lib.hid (And.intro hL hIL)
  have HA := Lib.hid ha
  clear hbx hi hL hIL ha
  go_enter Try.func46, Try.ntmps46
  go_wp2_with fail
  generalize w.alloc (.cells #[.slice iA IL ic, .int .i64 s] 40) = w1 at kb b0 b1 HI ⊢
  refine (both_c HI.out (by rw [HL.out.2]; omega) hs).mono ?_
  rintro e w2 h2
  rcases hst : startD img s with _ | d0
  · rw [hst] at h2
    obtain ⟨rfl, k2⟩ := h2
    clear hst
    go_wp2_with fail
    go_ret
    exact ⟨rfl, kb.thenN k2⟩
  · rw [hst] at h2
    obtain ⟨F0, G0, g, r, rfl, ht⟩ := h2
    have H2 := Lib.hid (ht.base kb)
    clear hst ht b0 b1 HI
    go_wp2_with fail
    go_loopw [10] (fun i wr => PlRel w g r L i wr) (fun i _ => L - (intOf i).toNat)
    case atStart => exact ⟨0, 0, _, _, _, Nat.zero_le _, rfl, Nat.le_refl _, H2.out⟩
    case round =>
      clear H2
      obtain ⟨q, k, F, G, d, hq, rfl, hkq, ht⟩ := hrel
      by_cases hlt : q < L
      · have hql : q < l.length := by rw [HL.out.1]; exact hlt
        obtain ⟨o, ho⟩ : ∃ o, l[q] = o := ⟨_, rfl⟩
        obtain ⟨ad, cs, rfl, hcs, hrow0, hat⟩ := HA.out.row q hql
        have hmem := opsSize_mem l o (by rw [← ho]; exact List.getElem_mem hql)
        rw [ho] at hat
        obtain ⟨⟨rv, cv, rfl, hrv, hcv⟩, hIk, hIi, hIs, hIc⟩ := hat
        obtain ⟨rA, rc, rfl, -⟩ := hrv.form
        obtain ⟨cA, cc, rfl, -⟩ := RdC.form hcv
        have hrow := hrow0.keepN ht.kp
        have hsz : o.raw.length ≤ 10000000 ∧ o.ch.length ≤ 10000000 := by unfold opSize at hmem; omega
        have hno := HL.out
        have hact : ∀ (w' : World) (F G : Nat → Prop) (k : Nat) (d : Dk), TwoM w w' F G g r k d d → k ≤ 900000000 → Calls Try.prog 61 #[.agg #[.int .i64 o.k, .int .i64 o.i, bv o.b, .int .i64 o.sz, .slice rA o.raw.length rc, .slice cA o.ch.length cc], .pointer (some ⟨g, 0, none⟩), .pointer (some ⟨r, 0, none⟩)] w' (ActP w w' F G g r k (actD d o)) := fun w' F G k d hh hk => acts_c hh hk hIi hrv hcv hsz.1 hsz.2
        have hask : ∀ (w' : World) (F G : Nat → Prop) (k : Nat) (d : Dk), TwoM w w' F G g r k d d → k ≤ 900000000 → Calls Try.prog 62 #[.agg #[.int .i64 o.k, .int .i64 o.i, bv o.b, .int .i64 o.sz, .slice rA o.raw.length rc, .slice cA o.ch.length cc], .pointer (some ⟨g, 0, none⟩), .pointer (some ⟨r, 0, none⟩)] w' (TrueP w') := fun w' F G k d hh hk => asks_c hh hk hIi
        obtain ⟨ok, hok⟩ : ∃ x, o.k = x := ⟨_, rfl⟩
        obtain ⟨oi, hoi⟩ : ∃ x, o.i = x := ⟨_, rfl⟩
        obtain ⟨Bz, hBV⟩ : ∃ x, bv o.b = .int .u8 x := ⟨_, rfl⟩
        obtain ⟨os, hos⟩ : ∃ x, o.sz = x := ⟨_, rfl⟩
        obtain ⟨RN, hRN⟩ : ∃ x, o.raw.length = x := ⟨_, rfl⟩
        obtain ⟨CN, hCN⟩ : ∃ x, o.ch.length = x := ⟨_, rfl⟩
        rw [hok, hoi, hBV, hos, hRN, hCN] at hrow hact hask
        have c0 := hrow.c0
        have c1 := hrow.fld 0 rfl
        have c2 := hrow.fld 1 rfl
        have c3 := hrow.fld 2 rfl
        have c4 := hrow.fld 3 rfl
        have c5 := hrow.fld 4 rfl
        have HACT := Lib.hid hact
        have HASK := Lib.hid hask
        have HT := Lib.hid ht
        have kw := (Kp.refl (fun _ => False) wr).alloc (.cells #[.int .i64 ok, .int .i64 oi, .int .u8 Bz, .int .i64 os, .slice rA RN rc, .slice cA CN cc] 100)
        have hbx : ∀ j v, #[Value.int .i64 ok, .int .i64 oi, .int .u8 Bz, .int .i64 os, .slice rA RN rc, .slice cA CN cc][j]? = some v → (wr.alloc (.cells #[.int .i64 ok, .int .i64 oi, .int .u8 Bz, .int .i64 os, .slice rA RN rc, .slice cA CN cc] 100)).cell? ⟨wr.heap.size, j, none⟩ = some v := fun j v hj => by
          rw [cell_of_row _ _ _ _ _ _ (heap_alloc_new _ _)]
          exact hj
        have hzr : wr.heap.size < (wr.alloc (.cells #[.int .i64 ok, .int .i64 oi, .int .u8 Bz, .int .i64 os, .slice rA RN rc, .slice cA CN cc] 100)).heap.size := by simp
        have HBX := Lib.hid hbx
        clear hact hask hok hoi hBV hos hRN hCN hrow hrow0 ht hrv hcv hno hsz hbx hIk hIi hIs hIc hcs
        go_wp2_with fail
        generalize wr.alloc (.cells #[.int .i64 ok, .int .i64 oi, .int .u8 Bz, .int .i64 os, .slice rA RN rc, .slice cA CN cc] 100) = w3 at kw hzr HBX ⊢
        refine kind_c.mono ?_
        rintro e w4 ⟨rfl, k4⟩
        have HT4 := Lib.hid (HT.out.keepN (kw.thenN k4))
        have hd : ∀ j v, #[Value.int .i64 ok, .int .i64 oi, .int .u8 Bz, .int .i64 os, .slice rA RN rc, .slice cA CN cc][j]? = some v → w4.cell? ⟨wr.heap.size, j, none⟩ = some v := fun j v hj => by
          rw [k4.cell (p := ⟨wr.heap.size, j, none⟩) hzr (fun x => x)]
          exact HBX.out j v hj
        have d0 := hd 0 _ rfl
        have d1 := hd 1 _ rfl
        have d2 := hd 2 _ rfl
        have d3 := hd 3 _ rfl
        have d4 := hd 4 _ rfl
        have d5 := hd 5 _ rfl
        have hzr4 : wr.heap.size < w4.heap.size := by have := k4.size; omega
        clear hd
        by_cases hkk : ok < 0 ∨ 7 < ok
        · rw [if_pos hkk]
          clear hkk
          have hfin : PlRel w g r L (.int .i64 ((q : Int) + 1)) w4 := ⟨q + 1, k, F, G, d, by omega, by go_num, by omega, HT4.out⟩
          have HF := Lib.hid hfin
          clear hfin c0 c1 c2 c3 c4 c5
          go_wp2_with fail
          exact ⟨HF.out, meas_up hlt⟩
        · rw [if_neg hkk]
          have hk0 : ¬ ok < 0 := by omega
          clear hkk c0 c1 c2 c3 c4 c5
          go_wp2_with fail
          refine (HACT.out _ _ _ _ _ HT4.out (by omega)).mono ?_
          rintro e w5 ⟨rfl, kp5, F5, G5, k5, hk5, ht5⟩
          have hS : ¬ (F wr.heap.size ∨ G wr.heap.size) := fun e => by
            rcases e with e | e
            · have := (HT.out.fl _ e).2; omega
            · have := (HT.out.gl _ e).2; omega
          have e0 : w5.cell? ⟨wr.heap.size, 0, none⟩ = _ := (kp5.cell hzr4 hS).trans d0
          have e1 : w5.cell? ⟨wr.heap.size, 1, none⟩ = _ := (kp5.cell hzr4 hS).trans d1
          have e2 : w5.cell? ⟨wr.heap.size, 2, none⟩ = _ := (kp5.cell hzr4 hS).trans d2
          have e3 : w5.cell? ⟨wr.heap.size, 3, none⟩ = _ := (kp5.cell hzr4 hS).trans d3
          have e4 : w5.cell? ⟨wr.heap.size, 4, none⟩ = _ := (kp5.cell hzr4 hS).trans d4
          have e5 : w5.cell? ⟨wr.heap.size, 5, none⟩ = _ := (kp5.cell hzr4 hS).trans d5
          have HT5 := Lib.hid ht5
          clear ht5 kp5 hS d0 d1 d2 d3 d4 d5
          go_wp2_with fail
          refine (HASK.out _ _ _ _ _ HT5.out (by omega)).mono ?_
          rintro e w6 ⟨rfl, k6⟩
          have hfin : PlRel w g r L (.int .i64 ((q : Int) + 1)) w6 := ⟨q + 1, k5, F5, G5, _, by omega, by go_num, by omega, HT5.out.keepN k6⟩
          have HF := Lib.hid hfin
          clear hfin e0 e1 e2 e3 e4 e5
          go_wp2_with fail
          exact ⟨HF.out, meas_up hlt⟩
      · have hqL : L = q := by omega
        subst hqL
        have hlen := imageD_len d ht.dk.len
        have hn2 := ht.dk.n2
        have HT := Lib.hid ht
        have HLEN := Lib.hid hlen
        clear ht hlen
        go_wp2_with fail
        refine (image_x HT.out.dk).mono ?_
        rintro e w4 ⟨u, rfl, o4, k4⟩
        have HO := Lib.hid o4
        clear o4
        go_wp2_with fail
        obtain ⟨rb, tv, vv, vs, hr⟩ := (HT.out.keepN k4).rf
        refine (image_r hr).mono ?_
        rintro e w5 ⟨u5, rfl, o5, k5⟩
        have HO5 := Lib.hid o5
        clear hr o5
        go_wp2_with fail
        refine (Bytes_c (HO.out.readsB.keepN k5) HO5.out.readsB (by rw [HLEN.out]; omega)).mono ?_
        rintro e w6 ⟨rfl, k6⟩
        rw [show decide (imageD d = imageD d) = true by simp]
        go_wp2_with fail
        go_ret
        exact ⟨rfl, ((HT.out.kp.thenN k4).thenN k5).thenN k6⟩
end Go.Proofs.Ythkbgbbejgpeaaa
