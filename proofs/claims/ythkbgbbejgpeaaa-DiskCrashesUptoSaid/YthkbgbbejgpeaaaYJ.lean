/- The statements against the document's disk: calls as data; a text. -/
import Derived.Test.YthkbgbbejgpeaaaYH
import Derived.Test.YthkbgbbejgpeaaaYD
namespace Go.Proofs.Ythkbgbbejgpeaaa
open Go Go.RowKit Go.ChangeShapes Go.WideShapes Go.ChangeAt
set_option maxRecDepth 100000

/-- a call as data -/
structure DOp where
  k : Int
  i : Int
  b : UInt8
  sz : Int
  raw : List UInt8
  ch : List Int
def DOpAt (W : World) (cs : List Value) (o : DOp) : Prop := (∃ rv cv, cs = [.int .i64 o.k, .int .i64 o.i, bv o.b, .int .i64 o.sz, rv, cv] ∧ RdB W rv o.raw ∧ RdI W cv o.ch) ∧ I64 o.k ∧ I64 o.i ∧ I64 o.sz ∧ ∀ z ∈ o.ch, I64 z
theorem DOpAt.keep {w w' : World} {cs : List Value} {o : DOp} (h : DOpAt w cs o) (k : KpN w w') : DOpAt w' cs o := by
  obtain ⟨⟨rv, cv, rfl, h0, h1⟩, h2⟩ := h
  exact ⟨⟨rv, cv, rfl, h0.keepN k, RdC.keepN h1 k⟩, h2⟩
/-- the bytes of a Write -/
def byteZ (z : Int) : UInt8 := UInt8.ofNat (z % 256).toNat
theorem bv_byteZ (z : Int) : bv (byteZ z) = .int .u8 (z % 256) := by
  have : (z % 256).toNat < 256 := by omega
  simp [bv, byteZ, Nat.mod_eq_of_lt this]
  omega
def textN (o : DOp) : Nat := if o.sz = 0 then 128 else (max 0 (min o.sz 1000)).toNat
def textB (o : DOp) : List UInt8 := if o.raw ≠ [] then o.raw else ((List.replicate (textN o) o.b).set 0 (byteZ o.i)).set 1 (byteZ (o.i / 256))
theorem textB_len (o : DOp) (h : o.raw.length ≤ 1000000000) : (textB o).length ≤ 1000000000 := by
  unfold textB
  split
  · exact h
  · unfold textN
    simp only [List.length_set, List.length_replicate]
    split <;> omega
theorem half_set (b : UInt8) (N q : Nat) (h : q < N) : (List.replicate q b ++ List.replicate (N - q) 0).set q b = List.replicate (q + 1) b ++ List.replicate (N - (q + 1)) 0 := by
  have e : N - q = (N - (q + 1)) + 1 := by omega
  rw [e, List.replicate_succ, List.replicate_succ', List.set_append, if_neg (by simp)]
  simp
theorem half_len (b : UInt8) (N q : Nat) (h : q ≤ N) : (List.replicate q b ++ List.replicate (N - q) 0).length = N := by simp; omega
def TextP (o : DOp) (w : World) (e : Ending) (w' : World) : Prop := GotB 5 w (textB o) e w'
set_option maxHeartbeats 6400000 in
theorem text_c {w : World} {o : DOp} {rv cv : Value} (hr : RdB w rv o.raw) (hc : RdI w cv o.ch) (hi : I64 o.i) (hl : o.raw.length ≤ 1000000000) :
    Calls Try.prog 68 #[.agg #[.int .i64 o.k, .int .i64 o.i, bv o.b, .int .i64 o.sz, rv, cv]] w (TextP o w) := by
  obtain ⟨rA, rc, rfl, -⟩ := hr.form
  obtain ⟨cA, cc, rfl, -⟩ := RdC.form hc
  obtain ⟨k, i, b, sz, raw, ch⟩ := o
  dsimp only at hr hc hi hl ⊢
  obtain ⟨RN, hRN⟩ : ∃ RN, raw.length = RN := ⟨_, rfl⟩
  obtain ⟨CN, hCN⟩ : ∃ CN, ch.length = CN := ⟨_, rfl⟩
  rw [hRN] at hr hl ⊢
  rw [hCN] at hc ⊢
  obtain ⟨Bz, hBV⟩ : ∃ z, bv b = .int .u8 z := ⟨_, rfl⟩
  rw [hBV]
  have kb := (Kp.refl (fun _ => False) w).alloc (.cells #[.int .i64 k, .int .i64 i, .int .u8 Bz, .int .i64 sz, .slice rA RN rc, .slice cA CN cc] 100)
  have hbx : ∀ j v, #[Value.int .i64 k, .int .i64 i, .int .u8 Bz, .int .i64 sz, .slice rA RN rc, .slice cA CN cc][j]? = some v → (w.alloc (.cells #[.int .i64 k, .int .i64 i, .int .u8 Bz, .int .i64 sz, .slice rA RN rc, .slice cA CN cc] 100)).cell? ⟨w.heap.size, j, none⟩ = some v := fun j v hj => by
    rw [cell_of_row _ _ _ _ _ _ (heap_alloc_new _ _)]
    exact hj
  have hzb : w.heap.size < (w.alloc (.cells #[.int .i64 k, .int .i64 i, .int .u8 Bz, .int .i64 sz, .slice rA RN rc, .slice cA CN cc] 100)).heap.size := by simp
  have b1 := hbx 1 _ rfl
  have b2 := hbx 2 _ rfl
  have b3 := hbx 3 _ rfl
  have b4 := hbx 4 _ rfl
  have HR := Lib.hid (hr.keepN kb)
  have HN := Lib.hid (And.intro hRN (And.intro hCN hBV))
  have hz1 : (w.alloc (.cells #[.int .i64 k, .int .i64 i, .int .u8 Bz, .int .i64 sz, .slice rA RN rc, .slice cA CN cc] 100)).heap.size = w.heap.size + 1 := by simp
  have HZ1 := Lib.hid hz1
  clear hbx hr hc hRN hCN hBV hz1
  go_enter Try.func68, Try.ntmps68
  by_cases hR : RN = 0
  · subst hR
    have hraw : raw = [] := List.eq_nil_of_length_eq_zero HN.out.1
    have htx : textB ⟨k, i, b, sz, raw, ch⟩ = ((List.replicate (textN ⟨k, i, b, sz, raw, ch⟩) b).set 0 (byteZ i)).set 1 (byteZ (i / 256)) := by
      unfold textB
      rw [if_neg (by simp [hraw])]
    have HTX := Lib.hid htx
    clear htx hraw
    by_cases h0 : sz = 0
    · subst h0
      have hN : textN ⟨k, i, b, 0, raw, ch⟩ = 128 := by simp only [textN]; rfl
      have HNN := Lib.hid hN
      obtain ⟨W1, hmk, ho, k1, hzs⟩ := made_zeros (w.alloc (.cells #[.int .i64 k, .int .i64 i, .int .u8 Bz, .int .i64 0, .slice rA 0 rc, .slice cA CN cc] 100)) 128 (by omega)
      rw [HZ1.out] at hmk ho
      rw [show ((128 : Nat) : Int) = 128 from rfl] at hmk
      have HO := Lib.hid ho
      have kw := kb.thenN k1
      have c1 : W1.cell? ⟨w.heap.size, 1, none⟩ = some (.int .i64 i) := by rw [k1.cell hzb (fun x => x)]; exact b1
      clear hN ho hzs
      go_wp2_with fail
      go_loopw [5] (fun j wr => ∃ q : Nat, q ≤ 128 ∧ j = .int .i64 q ∧ OwB wr 5 (fun x => x = w.heap.size + 1) (.slice (some ⟨w.heap.size + 1, 0, none⟩) 128 128) (List.replicate q b ++ List.replicate (128 - q) 0) ∧ KpN (w.alloc (.cells #[.int .i64 k, .int .i64 i, .int .u8 Bz, .int .i64 0, .slice rA 0 rc, .slice cA CN cc] 100)) wr) (fun j _ => 128 - (intOf j).toNat)
      case atStart => exact ⟨0, Nat.zero_le _, rfl, HO.out, k1⟩
      case round =>
        obtain ⟨q, hq, rfl, hoq, hkq⟩ := hrel
        have hlen := half_len b 128 q hq
        have d1 : wr.cell? ⟨w.heap.size, 1, none⟩ = some (.int .i64 i) := by rw [hkq.cell hzb (fun x => x)]; exact b1
        have d2 : wr.cell? ⟨w.heap.size, 2, none⟩ = some (.int .u8 Bz) := by rw [hkq.cell hzb (fun x => x)]; exact b2
        by_cases hlt : q < 128
        · have ck := hoq.byteAt hlen.symm q (by omega)
          have zk := hoq.frozenAt q
          have hp := hoq.putB hlen.symm q b
          rw [half_set b 128 q hlt] at hp
          have kp := hkq.setCell (p := ⟨w.heap.size + 1, q, none⟩) (.inr (by have := HZ1.out; show _ ≤ w.heap.size + 1; omega)) (bv b)
          rw [HN.out.2.2] at hp kp
          have HP := Lib.hid hp
          obtain ⟨bb, hbb⟩ : ∃ bb, bv ((List.replicate q b ++ List.replicate (128 - q) 0)[q]'(by omega)) = bb := ⟨_, rfl⟩
          rw [hbb] at ck
          clear hlen hoq hp hbb c1 hmk k1 b1 b2 b3 b4
          go_wp2_with fail
          go_roundw
          case rel => exact ⟨q + 1, by omega, by go_num, HP.out, kp⟩
          case measure => exact meas_up hlt
        · obtain rfl : q = 128 := by omega
          have e0 : List.replicate 128 b ++ List.replicate (128 - 128) 0 = List.replicate 128 b := by rw [Nat.sub_self]; simp
          rw [e0] at hoq
          have ck := hoq.byteAt (by simp) 0 (by simp <;> omega)
          have zk := hoq.frozenAt 0
          have hp := hoq.putB (by simp) 0 (byteZ i)
          have kp := hkq.setCell (p := ⟨w.heap.size + 1, 0, none⟩) (.inr (by have := HZ1.out; show _ ≤ w.heap.size + 1; omega)) (bv (byteZ i))
          have e1 := hp.byteAt (by simp) 1 (by simp <;> omega)
          have ze1 := hp.frozenAt 1
          have hp2 := hp.putB (by simp) 1 (byteZ (i / 256))
          have kp2 := kp.setCell (p := ⟨w.heap.size + 1, 1, none⟩) (.inr (by have := HZ1.out; show _ ≤ w.heap.size + 1; omega)) (bv (byteZ (i / 256)))
          have hfin : TextP ⟨k, i, b, 0, raw, ch⟩ w (.returned (.slice (some ⟨w.heap.size + 1, 0, none⟩) 128 128)) ((wr.setCell ⟨w.heap.size + 1, 0, none⟩ (bv (byteZ i))).setCell ⟨w.heap.size + 1, 1, none⟩ (bv (byteZ (i / 256)))) := ⟨_, rfl, by rw [HTX.out, HNN.out]; exact hp2.wide (fun x hx e => ⟨by rw [e]; omega, hx⟩), kb.thenN kp2⟩
          have d11 : (wr.setCell ⟨w.heap.size + 1, 0, none⟩ (bv (byteZ i))).cell? ⟨w.heap.size, 1, none⟩ = some (.int .i64 i) := by rw [kp.cell hzb (fun x => x)]; exact b1
          rw [bv_byteZ, bv_byteZ] at hfin
          rw [bv_byteZ] at e1 ze1 d11
          have HF := Lib.hid hfin
          obtain ⟨bb, hbb⟩ : ∃ bb, bv ((List.replicate 128 b)[0]'(by simp <;> omega)) = bb := ⟨_, rfl⟩
          rw [hbb] at ck
          obtain ⟨bb1, hbb1⟩ : ∃ bb1, bv (((List.replicate 128 b).set 0 (byteZ i))[1]'(by simp <;> omega)) = bb1 := ⟨_, rfl⟩
          rw [hbb1] at e1
          clear hfin hoq hlen hp kp hp2 kp2 hbb hbb1 c1 hmk k1 b1 b2 b3 b4
          go_wp2_with fail
          go_ret
          exact HF.out
    · by_cases h1 : sz < 0
      · have h1' : min sz 1000 = sz := by omega
        have h1'' : max 0 sz = 0 := by omega
        have hN : textN ⟨k, i, b, sz, raw, ch⟩ = 0 := by simp only [textN]; rw [if_neg h0]; omega
        have HNN := Lib.hid hN
        obtain ⟨W1, hmk, ho, k1, hzs⟩ := made_zeros (w.alloc (.cells #[.int .i64 k, .int .i64 i, .int .u8 Bz, .int .i64 sz, .slice rA 0 rc, .slice cA CN cc] 100)) 0 (by omega)
        rw [HZ1.out] at hmk ho
        rw [show ((0 : Nat) : Int) = 0 from rfl] at hmk
        have HO := Lib.hid ho
        have kw := kb.thenN k1
        have c1 : W1.cell? ⟨w.heap.size, 1, none⟩ = some (.int .i64 i) := by rw [k1.cell hzb (fun x => x)]; exact b1
        clear hN ho hzs
        go_wp2_with fail
        go_loopw [5] (fun j wr => ∃ q : Nat, q ≤ 0 ∧ j = .int .i64 q ∧ OwB wr 5 (fun x => x = w.heap.size + 1) (.slice (some ⟨w.heap.size + 1, 0, none⟩) 0 0) (List.replicate q b ++ List.replicate (0 - q) 0) ∧ KpN (w.alloc (.cells #[.int .i64 k, .int .i64 i, .int .u8 Bz, .int .i64 sz, .slice rA 0 rc, .slice cA CN cc] 100)) wr) (fun j _ => 0 - (intOf j).toNat)
        case atStart => exact ⟨0, Nat.zero_le _, rfl, HO.out, k1⟩
        case round =>
          obtain ⟨q, hq, rfl, hoq, hkq⟩ := hrel
          have hlen := half_len b 0 q hq
          have d1 : wr.cell? ⟨w.heap.size, 1, none⟩ = some (.int .i64 i) := by rw [hkq.cell hzb (fun x => x)]; exact b1
          have d2 : wr.cell? ⟨w.heap.size, 2, none⟩ = some (.int .u8 Bz) := by rw [hkq.cell hzb (fun x => x)]; exact b2
          by_cases hlt : q < 0
          · exact absurd hlt (by omega)
          · obtain rfl : q = 0 := by omega
            have e0 : List.replicate 0 b ++ List.replicate (0 - 0) 0 = List.replicate 0 b := by rw [Nat.sub_self]; simp
            rw [e0] at hoq
            have hfin : TextP ⟨k, i, b, sz, raw, ch⟩ w (.returned (.slice (some ⟨w.heap.size + 1, 0, none⟩) 0 0)) wr := ⟨_, rfl, by rw [HTX.out, HNN.out]; exact hoq.wide (fun x hx e => ⟨by rw [e]; omega, hx⟩), kb.thenN hkq⟩
            have HF := Lib.hid hfin
            clear hfin hoq hlen c1 hmk k1 b1 b2 b3 b4
            go_wp2_with fail
            go_ret
            exact HF.out
      · by_cases h2 : 1000 < sz
        · have h2' : min sz 1000 = 1000 := by omega
          have h2'' : max 0 (1000 : Int) = 1000 := by omega
          have hN : textN ⟨k, i, b, sz, raw, ch⟩ = 1000 := by simp only [textN]; rw [if_neg h0]; omega
          have HNN := Lib.hid hN
          obtain ⟨W1, hmk, ho, k1, hzs⟩ := made_zeros (w.alloc (.cells #[.int .i64 k, .int .i64 i, .int .u8 Bz, .int .i64 sz, .slice rA 0 rc, .slice cA CN cc] 100)) 1000 (by omega)
          rw [HZ1.out] at hmk ho
          rw [show ((1000 : Nat) : Int) = 1000 from rfl] at hmk
          have HO := Lib.hid ho
          have kw := kb.thenN k1
          have c1 : W1.cell? ⟨w.heap.size, 1, none⟩ = some (.int .i64 i) := by rw [k1.cell hzb (fun x => x)]; exact b1
          clear hN ho hzs
          go_wp2_with fail
          go_loopw [5] (fun j wr => ∃ q : Nat, q ≤ 1000 ∧ j = .int .i64 q ∧ OwB wr 5 (fun x => x = w.heap.size + 1) (.slice (some ⟨w.heap.size + 1, 0, none⟩) 1000 1000) (List.replicate q b ++ List.replicate (1000 - q) 0) ∧ KpN (w.alloc (.cells #[.int .i64 k, .int .i64 i, .int .u8 Bz, .int .i64 sz, .slice rA 0 rc, .slice cA CN cc] 100)) wr) (fun j _ => 1000 - (intOf j).toNat)
          case atStart => exact ⟨0, Nat.zero_le _, rfl, HO.out, k1⟩
          case round =>
            obtain ⟨q, hq, rfl, hoq, hkq⟩ := hrel
            have hlen := half_len b 1000 q hq
            have d1 : wr.cell? ⟨w.heap.size, 1, none⟩ = some (.int .i64 i) := by rw [hkq.cell hzb (fun x => x)]; exact b1
            have d2 : wr.cell? ⟨w.heap.size, 2, none⟩ = some (.int .u8 Bz) := by rw [hkq.cell hzb (fun x => x)]; exact b2
            by_cases hlt : q < 1000
            · have ck := hoq.byteAt hlen.symm q (by omega)
              have zk := hoq.frozenAt q
              have hp := hoq.putB hlen.symm q b
              rw [half_set b 1000 q hlt] at hp
              have kp := hkq.setCell (p := ⟨w.heap.size + 1, q, none⟩) (.inr (by have := HZ1.out; show _ ≤ w.heap.size + 1; omega)) (bv b)
              rw [HN.out.2.2] at hp kp
              have HP := Lib.hid hp
              obtain ⟨bb, hbb⟩ : ∃ bb, bv ((List.replicate q b ++ List.replicate (1000 - q) 0)[q]'(by omega)) = bb := ⟨_, rfl⟩
              rw [hbb] at ck
              clear hlen hoq hp hbb c1 hmk k1 b1 b2 b3 b4
              go_wp2_with fail
              go_roundw
              case rel => exact ⟨q + 1, by omega, by go_num, HP.out, kp⟩
              case measure => exact meas_up hlt
            · obtain rfl : q = 1000 := by omega
              have e0 : List.replicate 1000 b ++ List.replicate (1000 - 1000) 0 = List.replicate 1000 b := by rw [Nat.sub_self]; simp
              rw [e0] at hoq
              have ck := hoq.byteAt (by simp) 0 (by simp <;> omega)
              have zk := hoq.frozenAt 0
              have hp := hoq.putB (by simp) 0 (byteZ i)
              have kp := hkq.setCell (p := ⟨w.heap.size + 1, 0, none⟩) (.inr (by have := HZ1.out; show _ ≤ w.heap.size + 1; omega)) (bv (byteZ i))
              have e1 := hp.byteAt (by simp) 1 (by simp <;> omega)
              have ze1 := hp.frozenAt 1
              have hp2 := hp.putB (by simp) 1 (byteZ (i / 256))
              have kp2 := kp.setCell (p := ⟨w.heap.size + 1, 1, none⟩) (.inr (by have := HZ1.out; show _ ≤ w.heap.size + 1; omega)) (bv (byteZ (i / 256)))
              have hfin : TextP ⟨k, i, b, sz, raw, ch⟩ w (.returned (.slice (some ⟨w.heap.size + 1, 0, none⟩) 1000 1000)) ((wr.setCell ⟨w.heap.size + 1, 0, none⟩ (bv (byteZ i))).setCell ⟨w.heap.size + 1, 1, none⟩ (bv (byteZ (i / 256)))) := ⟨_, rfl, by rw [HTX.out, HNN.out]; exact hp2.wide (fun x hx e => ⟨by rw [e]; omega, hx⟩), kb.thenN kp2⟩
              have d11 : (wr.setCell ⟨w.heap.size + 1, 0, none⟩ (bv (byteZ i))).cell? ⟨w.heap.size, 1, none⟩ = some (.int .i64 i) := by rw [kp.cell hzb (fun x => x)]; exact b1
              rw [bv_byteZ, bv_byteZ] at hfin
              rw [bv_byteZ] at e1 ze1 d11
              have HF := Lib.hid hfin
              obtain ⟨bb, hbb⟩ : ∃ bb, bv ((List.replicate 1000 b)[0]'(by simp <;> omega)) = bb := ⟨_, rfl⟩
              rw [hbb] at ck
              obtain ⟨bb1, hbb1⟩ : ∃ bb1, bv (((List.replicate 1000 b).set 0 (byteZ i))[1]'(by simp <;> omega)) = bb1 := ⟨_, rfl⟩
              rw [hbb1] at e1
              clear hfin hoq hlen hp kp hp2 kp2 hbb hbb1 c1 hmk k1 b1 b2 b3 b4
              go_wp2_with fail
              go_ret
              exact HF.out
        · obtain ⟨n, rfl⟩ := Int.eq_ofNat_of_zero_le (show 0 ≤ sz by omega)
          have h3 : min (n : Int) 1000 = n := by omega
          have h4 : max 0 (n : Int) = n := by omega
          have hn1 : 1 ≤ n := by omega
          have hN : textN ⟨k, i, b, (n : Int), raw, ch⟩ = n := by simp only [textN]; rw [if_neg h0]; omega
          have HNN := Lib.hid hN
          obtain ⟨W1, hmk, ho, k1, hzs⟩ := made_zeros (w.alloc (.cells #[.int .i64 k, .int .i64 i, .int .u8 Bz, .int .i64 (n : Int), .slice rA 0 rc, .slice cA CN cc] 100)) n (by omega)
          rw [HZ1.out] at hmk ho
          have HO := Lib.hid ho
          have kw := kb.thenN k1
          have c1 : W1.cell? ⟨w.heap.size, 1, none⟩ = some (.int .i64 i) := by rw [k1.cell hzb (fun x => x)]; exact b1
          clear hN ho hzs
          go_wp2_with fail
          go_loopw [5] (fun j wr => ∃ q : Nat, q ≤ n ∧ j = .int .i64 q ∧ OwB wr 5 (fun x => x = w.heap.size + 1) (.slice (some ⟨w.heap.size + 1, 0, none⟩) n n) (List.replicate q b ++ List.replicate (n - q) 0) ∧ KpN (w.alloc (.cells #[.int .i64 k, .int .i64 i, .int .u8 Bz, .int .i64 (n : Int), .slice rA 0 rc, .slice cA CN cc] 100)) wr) (fun j _ => n - (intOf j).toNat)
          case atStart => exact ⟨0, Nat.zero_le _, rfl, HO.out, k1⟩
          case round =>
            obtain ⟨q, hq, rfl, hoq, hkq⟩ := hrel
            have hlen := half_len b n q hq
            have d1 : wr.cell? ⟨w.heap.size, 1, none⟩ = some (.int .i64 i) := by rw [hkq.cell hzb (fun x => x)]; exact b1
            have d2 : wr.cell? ⟨w.heap.size, 2, none⟩ = some (.int .u8 Bz) := by rw [hkq.cell hzb (fun x => x)]; exact b2
            by_cases hlt : q < n
            · have ck := hoq.byteAt hlen.symm q (by omega)
              have zk := hoq.frozenAt q
              have hp := hoq.putB hlen.symm q b
              rw [half_set b n q hlt] at hp
              have kp := hkq.setCell (p := ⟨w.heap.size + 1, q, none⟩) (.inr (by have := HZ1.out; show _ ≤ w.heap.size + 1; omega)) (bv b)
              rw [HN.out.2.2] at hp kp
              have HP := Lib.hid hp
              obtain ⟨bb, hbb⟩ : ∃ bb, bv ((List.replicate q b ++ List.replicate (n - q) 0)[q]'(by omega)) = bb := ⟨_, rfl⟩
              rw [hbb] at ck
              clear hlen hoq hp hbb c1 hmk k1 b1 b2 b3 b4
              go_wp2_with fail
              go_roundw
              case rel => exact ⟨q + 1, by omega, by go_num, HP.out, kp⟩
              case measure => exact meas_up hlt
            · obtain rfl : n = q := by omega
              have e0 : List.replicate n b ++ List.replicate (n - n) 0 = List.replicate n b := by rw [Nat.sub_self]; simp
              rw [e0] at hoq
              by_cases hone : n = 1
              · have hno : ¬ (1 < (n : Int)) := by omega
                have HONE := Lib.hid hone
                clear hone
                have ck := hoq.byteAt (by simp) 0 (by simp <;> omega)
                have zk := hoq.frozenAt 0
                have hp := hoq.putB (by simp) 0 (byteZ i)
                have kp := hkq.setCell (p := ⟨w.heap.size + 1, 0, none⟩) (.inr (by have := HZ1.out; show _ ≤ w.heap.size + 1; omega)) (bv (byteZ i))
                have hfin : TextP ⟨k, i, b, (n : Int), raw, ch⟩ w (.returned (.slice (some ⟨w.heap.size + 1, 0, none⟩) n n)) (wr.setCell ⟨w.heap.size + 1, 0, none⟩ (bv (byteZ i))) := ⟨_, rfl, by rw [HTX.out, HNN.out, List.set_eq_of_length_le (by have := HONE.out; simp; omega)]; exact hp.wide (fun x hx e => ⟨by rw [e]; omega, hx⟩), kb.thenN kp⟩
                rw [bv_byteZ] at hfin
                have HF := Lib.hid hfin
                obtain ⟨bb, hbb⟩ : ∃ bb, bv ((List.replicate n b)[0]'(by simp; omega)) = bb := ⟨_, rfl⟩
                rw [hbb] at ck
                clear hfin hoq hlen hp kp hbb c1 hmk k1 b1 b2 b3 b4
                go_wp2_with fail
                go_ret
                exact HF.out
              · have htwo : 1 < n := by omega
                have ck := hoq.byteAt (by simp) 0 (by simp <;> omega)
                have zk := hoq.frozenAt 0
                have hp := hoq.putB (by simp) 0 (byteZ i)
                have kp := hkq.setCell (p := ⟨w.heap.size + 1, 0, none⟩) (.inr (by have := HZ1.out; show _ ≤ w.heap.size + 1; omega)) (bv (byteZ i))
                have e1 := hp.byteAt (by simp) 1 (by simp <;> omega)
                have ze1 := hp.frozenAt 1
                have hp2 := hp.putB (by simp) 1 (byteZ (i / 256))
                have kp2 := kp.setCell (p := ⟨w.heap.size + 1, 1, none⟩) (.inr (by have := HZ1.out; show _ ≤ w.heap.size + 1; omega)) (bv (byteZ (i / 256)))
                have hfin : TextP ⟨k, i, b, (n : Int), raw, ch⟩ w (.returned (.slice (some ⟨w.heap.size + 1, 0, none⟩) n n)) ((wr.setCell ⟨w.heap.size + 1, 0, none⟩ (bv (byteZ i))).setCell ⟨w.heap.size + 1, 1, none⟩ (bv (byteZ (i / 256)))) := ⟨_, rfl, by rw [HTX.out, HNN.out]; exact hp2.wide (fun x hx e => ⟨by rw [e]; omega, hx⟩), kb.thenN kp2⟩
                have d11 : (wr.setCell ⟨w.heap.size + 1, 0, none⟩ (bv (byteZ i))).cell? ⟨w.heap.size, 1, none⟩ = some (.int .i64 i) := by rw [kp.cell hzb (fun x => x)]; exact b1
                rw [bv_byteZ, bv_byteZ] at hfin
                rw [bv_byteZ] at e1 ze1 d11
                have HF := Lib.hid hfin
                obtain ⟨bb, hbb⟩ : ∃ bb, bv ((List.replicate n b)[0]'(by simp <;> omega)) = bb := ⟨_, rfl⟩
                rw [hbb] at ck
                obtain ⟨bb1, hbb1⟩ : ∃ bb1, bv (((List.replicate n b).set 0 (byteZ i))[1]'(by simp <;> omega)) = bb1 := ⟨_, rfl⟩
                rw [hbb1] at e1
                clear hfin hoq hlen hp kp hp2 kp2 hbb hbb1 c1 hmk k1 b1 b2 b3 b4
                go_wp2_with fail
                go_ret
                exact HF.out
  · have hraw : raw ≠ [] := fun e => hR (by have := HN.out.1; rw [e] at this; simpa using this.symm)
    have htx : textB ⟨k, i, b, sz, raw, ch⟩ = raw := by unfold textB; rw [if_pos hraw]
    have hRp : 0 < RN := by omega
    have kl := (Kp.refl (fun _ => False) (w.alloc (.cells #[.int .i64 k, .int .i64 i, .int .u8 Bz, .int .i64 sz, .slice rA RN rc, .slice cA CN cc] 100))).alloc (.cells #[] 5)
    have o0 := OwB.lit (w.alloc (.cells #[.int .i64 k, .int .i64 i, .int .u8 Bz, .int .i64 sz, .slice rA RN rc, .slice cA CN cc] 100)) 5 [] #[] rfl (by simp)
    obtain ⟨v', w', r, o', k2, -⟩ := run_appB (P := Try.prog) (ty := 28) ((w.alloc (.cells #[.int .i64 k, .int .i64 i, .int .u8 Bz, .int .i64 sz, .slice rA RN rc, .slice cA CN cc] 100)).alloc (.cells #[] 5)) Try.underlying28 u8info o0 (HR.out.keepN kl) (by have := HN.out.1; simp; omega)
    have hz2 := k2.size
    have hz3 := HZ1.out
    rw [HZ1.out] at r
    have hz : ((w.alloc (.cells #[.int .i64 k, .int .i64 i, .int .u8 Bz, .int .i64 sz, .slice rA RN rc, .slice cA CN cc] 100)).alloc (.cells #[] 5)).heap.size = w.heap.size + 1 + 1 := by simp
    have hfin : TextP ⟨k, i, b, sz, raw, ch⟩ w (.returned v') w' := ⟨_, rfl, by rw [htx]; exact o'.wide (fun x hx hf => by rcases hf with hf | hf <;> exact ⟨by have := hf.1; omega, hx⟩), kb.thenN (kl.fresh k2 (fun y hy => by have hy : (w.alloc (.cells #[.int .i64 k, .int .i64 i, .int .u8 Bz, .int .i64 sz, .slice rA RN rc, .slice cA CN cc] 100)).heap.size = y := Option.some.inj hy; omega))⟩
    have HF := Lib.hid hfin
    clear hfin o' k2 o0 kl hz hz2 hz3 htx hraw
    go_wp2_with (at_builtin; (with_reducible refine app_op r rfl rfl ?_))
    go_ret
    exact HF.out
theorem kind_c {w : World} {k i sz : Int} {b : Value} {rA cA : Option Addr} {RN rc CN cc : Nat} :
    Calls Try.prog 60 #[.agg #[.int .i64 k, .int .i64 i, b, .int .i64 sz, .slice rA RN rc, .slice cA CN cc]] w fun e w' => e = .returned (.int .i64 (if k < 0 ∨ 7 < k then -1 else k)) ∧ KpN w w' := by
  have kb := (Kp.refl (fun _ => False) w).alloc (.cells #[.int .i64 k, .int .i64 i, b, .int .i64 sz, .slice rA RN rc, .slice cA CN cc] 100)
  go_enter Try.func60, Try.ntmps60
  by_cases h0 : k < 0
  · go_wp2
    go_ret
    exact ⟨rfl, kb⟩
  · by_cases h1 : 7 < k
    · have h1' : k > 7 := h1
      go_wp2
      go_ret
      exact ⟨rfl, kb⟩
    · have h1' : ¬ k > 7 := h1
      go_wp2
      go_ret
      exact ⟨rfl, kb⟩
end Go.Proofs.Ythkbgbbejgpeaaa
