/- A keeper's book in memory: reads, present, chosen. -/
import Derived.Test.YthkbgbbejgpeaaaJP
import Derived.Test.YthkbgbbejgpeaaaOI
import Derived.Test.YthkbgbbejgpeaaaJN
namespace Go.Proofs.Ythkbgbbejgpeaaa
open Go Go.RowKit
set_option maxRecDepth 100000

/-- the book at block kb: the disk's pointer, the row of lists, the next number -/
structure BookM (w : World) (B : Nat → Prop) (kb g : Nat) (mv : Value) (ls : List (Value × List Int)) (next : Nat) : Prop where
  fit : B kb
  lt : kb < w.heap.size
  c0 : w.cell? ⟨kb, 0, none⟩ = some (ptrD g)
  c1 : w.cell? ⟨kb, 1, none⟩ = some mv
  c2 : w.cell? ⟨kb, 2, none⟩ = some (.int .i64 (next : Int))
  fz : ∀ j, w.frozen? ⟨kb, j, none⟩ = false
  own : OwnL w 29 B mv ls
  sep : ∀ b, mv.ownBlock = some b → b ≠ kb
  seps : ∀ i (h : i < ls.length) b, ls[i].1.ownBlock = some b → b ≠ kb
theorem BookM.keep {w w' : World} {B S : Nat → Prop} {kb g next : Nat} {mv : Value} {ls : List (Value × List Int)} (h : BookM w B kb g mv ls next) (k : Kp S w w') (hs : ∀ x, B x → ¬ S x) : BookM w' B kb g mv ls next := by
  refine ⟨h.fit, Nat.lt_of_lt_of_le h.lt k.size, ?_, ?_, ?_, fun j => ?_, h.own.keep k hs, h.sep, h.seps⟩
  · rw [k.cell h.lt (hs _ h.fit)]; exact h.c0
  · rw [k.cell h.lt (hs _ h.fit)]; exact h.c1
  · rw [k.cell h.lt (hs _ h.fit)]; exact h.c2
  · rw [k.frozen h.lt (hs _ h.fit)]; exact h.fz j
theorem BookM.keepN {w w' : World} {B : Nat → Prop} {kb g next : Nat} {mv : Value} {ls : List (Value × List Int)} (h : BookM w B kb g mv ls next) (k : KpN w w') : BookM w' B kb g mv ls next := h.keep k (fun _ _ x => x)
theorem BookM.wide {w : World} {B C : Nat → Prop} {kb g next : Nat} {mv : Value} {ls : List (Value × List Int)} (h : BookM w B kb g mv ls next) (hg : ∀ x, x < w.heap.size → B x → C x) : BookM w C kb g mv ls next :=
  { h with fit := hg _ h.lt h.fit, own := h.own.wide hg }
/-- the disk, the book, and that they agree -/
structure KS (w0 w : World) (F B : Nat → Prop) (kb g k : Nat) (d : Dk) (mv : Value) (ls : List (Value × List Int)) (next : Nat) : Prop where
  dk : DiskX w F g k d
  bk : BookM w B kb g mv ls next
  ok : BkOk d (ls.map Prod.snd) next
  dis : ∀ x, F x → ¬ B x
  fl : ∀ x, F x → w0.heap.size ≤ x ∧ x < w.heap.size
  bl : ∀ x, B x → w0.heap.size ≤ x ∧ x < w.heap.size
  kp : KpN w0 w
theorem KS.keepN {w0 w w' : World} {F B : Nat → Prop} {kb g k : Nat} {d : Dk} {mv : Value} {ls : List (Value × List Int)} {next : Nat} (h : KS w0 w F B kb g k d mv ls next) (kp : KpN w w') : KS w0 w' F B kb g k d mv ls next :=
  ⟨h.dk.keepN kp, h.bk.keepN kp, h.ok, h.dis, fun x hx => ⟨(h.fl x hx).1, by have := (h.fl x hx).2; have := kp.size; omega⟩, fun x hx => ⟨(h.bl x hx).1, by have := (h.bl x hx).2; have := kp.size; omega⟩, h.kp.thenN kp⟩
theorem chosen_c {w : World} {A : Option Addr} {n c : Nat} {l : List Int} {z : Int} (h : RdI w (.slice A n c) l) (hz : I64 z) :
    Calls Try.prog 67 #[.slice A n c, .int .i64 z] w fun e w' => e = .returned (.int .i64 (chosenZ l z)) ∧ w = w' := by
  have hl := rdI_len h
  by_cases h0 : z < 0
  · have hc : chosenZ l z = -1 := by simp [chosenZ, h0]
    have HC := Lib.hid hc
    clear hc hl
    go_enter Try.func67, Try.ntmps67
    go_wp2
    go_ret
    rw [HC.out]
    exact ⟨rfl, rfl⟩
  · obtain ⟨p, rfl⟩ := Int.eq_ofNat_of_zero_le (by omega : 0 ≤ z)
    by_cases h1 : p < n
    · obtain ⟨ad, rfl, hcell⟩ := rdI_at h p (by omega)
      have hc : chosenZ l (p : Int) = l[p]'(by omega) := by
        unfold chosenZ
        rw [if_neg (by omega)]
        have : p < l.length := by omega
        simp [this]
      generalize l[p]'(by omega) = x at hcell hc
      have HC := Lib.hid hc
      have h0' : ¬ ((p : Int) < 0) := by omega
      clear hc hl
      go_enter Try.func67, Try.ntmps67
      go_wp2
      go_ret
      rw [HC.out]
      exact ⟨rfl, rfl⟩
    · have hc : chosenZ l (p : Int) = -1 := by
        unfold chosenZ
        rw [if_pos (by omega)]
      have HC := Lib.hid hc
      clear hc hl
      go_enter Try.func67, Try.ntmps67
      go_wp2
      go_ret
      rw [HC.out]
      exact ⟨rfl, rfl⟩
def TrueN (w : World) (e : Ending) (w' : World) : Prop := e = .returned (.bool true) ∧ KpN w w'
set_option maxHeartbeats 1600000 in
theorem reads_c {w : World} {F B : Nat → Prop} {kb g k i next : Nat} {d : Dk} {mv : Value} {ls : List (Value × List Int)} {z : Int} (hd : DiskX w F g k d) (hb : BookM w B kb g mv ls next) (hi : i ≤ 1000000000) (hz : -1 ≤ z ∧ z ≤ 1000000000) (hr : readD d (i : Int) = wantZ z) :
    Calls Try.prog 57 #[ptrD kb, .int .i64 (i : Int), .int .i64 z] w (TrueN w) := by
  have c0 := hb.c0
  have hrx := read_x (i := (i : Int)) hd ⟨by omega, by omega⟩
  rw [hr] at hrx
  obtain ⟨z1, z2⟩ := hz
  by_cases hneg : z < 0
  · obtain rfl : z = -1 := by omega
    have hw : wantZ (-1) = ([], 40) := rfl
    rw [hw] at hrx
    clear hw hr
    go_enter Try.func57, Try.ntmps57
    go_wp2_with fail
    refine hrx.mono ?_
    rintro e w1 ⟨u, rfl, o1, k1⟩
    obtain ⟨A, c, rfl, -⟩ := o1.readsB.form
    go_wp2_with fail
    go_ret
    exact ⟨rfl, k1⟩
  · have hw : wantZ z = (textZ z, 0) := by unfold wantZ; rw [if_neg hneg]
    rw [hw] at hrx
    have HRX := Lib.hid hrx
    clear hw hr hrx
    by_cases hp : 0 < z
    · obtain ⟨n, rfl⟩ := Int.eq_ofNat_of_zero_le (by omega : 0 ≤ z)
      have ht : textZ (n : Int) = fillB n := by unfold textZ; rw [if_neg (by omega)]; rfl
      have HT := Lib.hid ht
      clear ht
      go_enter Try.func57, Try.ntmps57
      go_wp2_with fail
      refine HRX.out.mono ?_
      rw [HT.out]
      rintro e w1 ⟨u, rfl, o1, k1⟩
      obtain ⟨W1, hmk, hoz, kz, hzs⟩ := made_zeros w1 128 (by omega)
      rw [show ((128 : Nat) : Int) = 128 from rfl] at hmk
      have HO1 := Lib.hid (o1.readsB.keepN kz)
      clear hoz hzs o1
      go_wp2_with fail
      refine (fill_c (n := n) (by omega)).mono ?_
      rintro e w2 ⟨v2, rfl, o2, k2⟩
      clear hmk
      go_wp2_with fail
      refine (Bytes_c (HO1.out.keepN k2) o2.readsB (by rw [fillB_len]; omega)).mono ?_
      rintro e w3 ⟨rfl, k3⟩
      rw [show decide (fillB n = fillB n) = true by simp]
      go_wp2_with fail
      go_ret
      exact ⟨rfl, ((k1.thenN kz).thenN k2).thenN k3⟩
    · obtain rfl : z = 0 := by omega
      have ht : textZ 0 = List.replicate 128 0 := rfl
      have HT := Lib.hid ht
      clear ht
      go_enter Try.func57, Try.ntmps57
      go_wp2_with fail
      refine HRX.out.mono ?_
      rw [HT.out]
      rintro e w1 ⟨u, rfl, o1, k1⟩
      obtain ⟨W1, hmk, hoz, kz, hzs⟩ := made_zeros w1 128 (by omega)
      rw [show ((128 : Nat) : Int) = 128 from rfl] at hmk
      have HO1 := Lib.hid (o1.readsB.keepN kz)
      have HOZ := Lib.hid hoz
      clear hoz hzs o1
      go_wp2_with fail
      refine (Bytes_c HO1.out HOZ.out.readsB (by simp)).mono ?_
      rintro e w3 ⟨rfl, k3⟩
      rw [show decide (List.replicate 128 (0 : UInt8) = List.replicate 128 0) = true by simp]
      clear hmk
      go_wp2_with fail
      go_ret
      exact ⟨rfl, (k1.thenN kz).thenN k3⟩
theorem lastZ_bd {d : Dk} {may : List (List Int)} {next : Nat} (h : BkOk d may next) (i : Nat) (hi : i < may.length) : -1 ≤ lastZ may[i] ∧ lastZ may[i] < next := by
  obtain ⟨m0, ms, he, h0, h1, -, -, -, hm⟩ := h.each i hi
  rw [he]
  by_cases hms : ms = []
  · subst hms
    simp [lastZ]
    omega
  · have hx := hm _ (List.getLast_mem hms)
    have : lastZ (m0 :: ms) = ms.getLast hms := by
      unfold lastZ
      rw [List.getLast?_cons, List.getLast?_eq_some_getLast hms]
      rfl
    rw [this]
    omega
theorem KS.ls_len {w0 w : World} {F B : Nat → Prop} {kb g k : Nat} {d : Dk} {mv : Value} {ls : List (Value × List Int)} {next : Nat} (h : KS w0 w F B kb g k d mv ls next) : ls.length = d.n := by
  have := h.ok.n
  simpa using this
/-- the last number of a list -/
theorem last_at {w : World} {F : Nat → Prop} {v : Value} {l : List Int} (h : OwI w F v l) (hl : 0 < l.length) : ∃ g M cap, v = .slice (some ⟨g, 0, none⟩) (M + 1) cap ∧ l.length = M + 1 ∧ w.cell? ⟨g, M, none⟩ = some (.int .i64 (lastZ l)) := by
  obtain ⟨g, cap, hv, -, -⟩ := h.form hl
  obtain ⟨M, hM⟩ : ∃ M, l.length = M + 1 := ⟨l.length - 1, by omega⟩
  refine ⟨g, M, cap, by rw [hv, hM], hM, ?_⟩
  have hc := h.c
  rw [hv] at hc
  rw [hc.cellAt M (by omega)]
  have : l.getLast? = l[M]? := by rw [List.getLast?_eq_getElem?, hM, Nat.add_sub_cancel]
  simp [lastZ, this, hM]
set_option maxHeartbeats 1600000 in
theorem present_c {w0 w : World} {F B : Nat → Prop} {kb g k : Nat} {d : Dk} {mv : Value} {ls : List (Value × List Int)} {next : Nat} (h : KS w0 w F B kb g k d mv ls next) (hnx : next ≤ 100000000) (hlb : ∀ l ∈ ls, l.2.length ≤ 1000000000) :
    Calls Try.prog 37 #[ptrD kb] w (TrueN w) := by
  have hll := h.ls_len
  have hn2 := h.dk.n2
  obtain ⟨L, hL⟩ : ∃ L, ls.length = L := ⟨_, rfl⟩
  have hL1 : 0 < L := by have := h.dk.n1; omega
  obtain ⟨mb, mc, hmv, -, -⟩ := h.bk.own.form (by omega)
  rw [hL] at hmv
  subst hmv
  have HH := Lib.hid h
  have HL := Lib.hid hL
  have HLL := Lib.hid hll
  have HLB := Lib.hid hlb
  clear h hL hlb hll
  go_enter Try.func37, Try.ntmps37
  go_wp2_with fail
  go_loopw [3] (fun i wr => ∃ q : Nat, q ≤ L ∧ i = .int .i64 q ∧ KpN w wr) (fun i _ => L - (intOf i).toNat)
  case atStart => exact ⟨0, Nat.zero_le _, rfl, Kp.refl _ _⟩
  case round =>
    obtain ⟨q, hq, rfl, hk⟩ := hrel
    have hs := HH.out.keepN hk
    have c1 := hs.bk.c1
    by_cases hlt : q < L
    · have hql : q < ls.length := by rw [HL.out]; exact hlt
      have hqm : q < (ls.map Prod.snd).length := by simpa using hql
      have hE := hs.ok.each q hqm
      have hbd := lastZ_bd hs.ok q hqm
      have hpos := hE.pos
      have hqn : q < d.n := by rw [← HLL.out]; exact hql
      have hread := hE.read hqn hs.ok.off
      have eqq : (ls.map Prod.snd)[q] = ls[q].2 := by simp
      rw [eqq] at hbd hpos hread
      obtain ⟨lg, M, lcap, hlv, hlM, hlc⟩ := last_at (hs.bk.own.each q hql) hpos
      have hmc := hs.bk.own.cellAt q hql
      rw [hlv] at hmc
      have hMb : M < 1000000000 := by have := HLB.out ls[q] (List.getElem_mem hql); omega
      generalize lastZ ls[q].2 = z at hlc hbd hread
      have HS := Lib.hid hs
      have HR := Lib.hid (And.intro hbd hread)
      clear hs hE hbd hread hlv hlM hpos
      go_wp2_with fail
      refine (reads_c HS.out.dk HS.out.bk (by omega) ⟨HR.out.1.1, by have := HR.out.1.2; omega⟩ HR.out.2).mono ?_
      rintro e w1 ⟨rfl, k1⟩
      go_wp2_with fail
      go_roundw
      case rel => exact ⟨q + 1, by omega, by go_num, hk.thenN k1⟩
      case measure => exact meas_up hlt
    · have hqL : L = q := by omega
      subst hqL
      clear hs
      go_wp2_with fail
      go_ret
      exact ⟨rfl, hk⟩
end Go.Proofs.Ythkbgbbejgpeaaa
