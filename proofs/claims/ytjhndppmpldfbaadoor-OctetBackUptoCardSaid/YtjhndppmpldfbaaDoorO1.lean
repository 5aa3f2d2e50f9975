/- The helpers of the statements of layer 1: what each does to memory. -/
import Derived.Test.YtjhndppmpldfbaaDoorProg
import Derived.Test.YtjhndppmpldfbaaDoorV
import Derived.Outline
namespace Go.Proofs.YtjhndppmpldfbaaDoor
open Go Go.RowKit

/-- a new list of bytes is handed back, and nothing that was there has changed -/
def GotB (U : Nat) (w : World) (ys : List UInt8) (e : Ending) (w' : World) : Prop := ∃ u, e = .returned u ∧ OwB w' U (Iv w.heap.size w'.heap.size) u ys ∧ KpN w w'
def marks : List UInt8 := [11, 12, 13, 14, 15, 16, 17, 18]
theorem u8info : (Tryd.prog.info? 5).map (fun i => (i.zero, i.size, i.bytes)) = some (some (.int .u8 0), 1, 1) := by kernel_rfl

set_option maxHeartbeats 400000 in
theorem lent_c {v : Value} {xs : List UInt8} {w : World} (h : RdB w v xs) (hb : xs.length ≤ 1000000000000) :
    Calls Tryd.prog 16 #[v] w (GotB 5 w (xs ++ marks)) := by
  obtain ⟨v1, w1, r1, o1, k1⟩ := run_appB_nil (P := Tryd.prog) (ty := 22) w Tryd.underlying22 u8info h (by omega)
  obtain ⟨v2, w2, r2, o2, k2⟩ := run_appS (P := Tryd.prog) (ty := 22) w1 Tryd.underlying22 Tryd.underlying9 u8info o1 ⟨marks.toArray⟩ (by simp [marks, ByteArray.size]; omega)
  obtain ⟨A, c, rfl, hc⟩ := h.form
  go_enter Tryd.func16, Tryd.ntmps16
  go_wp2_with (first | (refine app_op r1 rfl rfl ?_) | (refine app_op r2 rfl rfl ?_))
  go_ret
  exact ⟨v2, rfl, o2.wide (fun k _ hk => by rcases hk with hk | hk <;> exact ⟨by have := k1.size; omega, by have := k2.size; omega⟩), k1.fresh k2 (fun i hi => (o1.fit i hi).1)⟩

/-- 'stays', where it does -/
theorem stays_c {u v : Value} {xs : List UInt8} {w : World} (hu : RdB w u (xs ++ marks)) (hv : RdB w v xs) (hb : xs.length ≤ 1000000000000) :
    Calls Tryd.prog 21 #[u, v] w fun e w' => e = .returned (.bool true) ∧ w = w' := by
  have e1 := run_toStr w Tryd.underlying22 Tryd.underlying5 Tryd.underlying9 hu
  have e2 := run_toStr w Tryd.underlying22 Tryd.underlying5 Tryd.underlying9 hv
  have hs : (bs xs).size ≤ 1000000000000 := by rw [bs_size]; exact hb
  obtain ⟨A, c, rfl, hc⟩ := hu.form
  obtain ⟨B, d, rfl, hd⟩ := hv.form
  go_enter Tryd.func21, Tryd.ntmps21
  go_wp2_with (first | (refine conv_op e1 rfl ?_) | (refine conv_op e2 rfl ?_))
  go_ret
  refine ⟨?_, rfl⟩
  rw [toList_app, bs_toList, bs_toList, toList_lit]
  exact congrArg (fun b => Ending.returned (.bool b)) (beq_self_eq_true _)

def turn (xs : List UInt8) : List UInt8 := xs.map (· ^^^ 21)
theorem turn_length (xs : List UInt8) : (turn xs).length = xs.length := by simp [turn]
/-- the loop of 'turned' after k rounds -/
def TurnRel (g n cap : Nat) (F : Nat → Prop) (xs ms : List UInt8) (w : World) (i : Value) (wr : World) : Prop :=
  ∃ k : Nat, k ≤ xs.length ∧ i = .int .i64 k ∧ OwB wr 5 F (.slice (some ⟨g, 0, none⟩) n cap) (turn (xs.take k) ++ (xs.drop k ++ ms)) ∧ Kp1 g w wr
theorem turn_step (xs ms : List UInt8) (k : Nat) (h : k < xs.length) : (turn (xs.take k) ++ (xs.drop k ++ ms)).set k (xs[k] ^^^ 21) = turn (xs.take (k + 1)) ++ (xs.drop (k + 1) ++ ms) := by
  rw [List.drop_eq_getElem_cons h, List.take_succ_eq_append_getElem h, List.set_append_right _ _ (by simp [turn]; omega)]
  have : k - (turn (xs.take k)).length = 0 := by simp [turn]; omega
  have h2 : turn (xs.take k ++ [xs[k]]) = turn (xs.take k) ++ [xs[k] ^^^ 21] := by unfold turn; rw [List.map_append]; rfl
  rw [this, List.cons_append, List.set_cons_zero, h2, List.append_assoc]
  rfl
theorem turn_all (xs ms : List UInt8) : turn (xs.take xs.length) ++ (xs.drop xs.length ++ ms) = turn xs ++ ms := by simp
set_option maxHeartbeats 400000 in
theorem turned_c {v : Value} {xs ms : List UInt8} {F : Nat → Prop} {w : World} (h : OwB w 5 F v (xs ++ ms)) (hm : ms.length = 8) (hb : xs.length ≤ 1000000000000) :
    Calls Tryd.prog 22 #[v] w fun e w' => ∃ u, e = .returned u ∧ OwB w' 5 (Iv w.heap.size w'.heap.size) u (turn xs) ∧ OwB w' 5 F v (turn xs ++ ms) ∧ Kp F w w' := by
  obtain ⟨g, cap, rfl, hg, hc⟩ := h.form (by simp; omega)
  have hl : (xs ++ ms).length = xs.length + 8 := by simp [hm]
  go_enter Tryd.func22, Tryd.ntmps22
  generalize hn : (xs ++ ms).length = n at *
  go_wp2_with fail
  go_loopw [4] (fun i wr => TurnRel g n cap F xs ms w i wr) (fun i _ => xs.length - (intOf i).toNat)
  case atStart => exact ⟨0, Nat.zero_le _, rfl, by subst hn; exact h, Kp.refl _ _⟩
  case round =>
    obtain ⟨k, hk, rfl, ho, hkp⟩ := hrel
    have hlen : (turn (xs.take k) ++ (xs.drop k ++ ms)).length = n := by simp [turn_length]; omega
    by_cases hlt : k < xs.length
    · have c1 := ho.byteAt hlen.symm k (by omega)
      have e1 : (turn (xs.take k) ++ (xs.drop k ++ ms))[k]'(by omega) = xs[k] := by
        rw [List.getElem_append_right (by simp [turn_length]; omega), List.getElem_append_left (by simp [turn_length]; omega)]
        simp [turn_length, Nat.min_eq_left hk]
      rw [e1] at c1
      simp only [bv] at c1
      have c2 := ho.frozenAt k
      have c3 : bits .xor .u8 (xs[k].toNat : Int) 21 = ((xs[k] ^^^ 21).toNat : Int) := xor_bv xs[k] 21
      have ho2 := ho.putB hlen.symm k (xs[k] ^^^ 21)
      rw [turn_step xs ms k hlt] at ho2
      have hkp2 : Kp1 g w (wr.setCell ⟨g, k, none⟩ (bv (xs[k] ^^^ 21))) := hkp.setCell (.inl rfl) _
      simp only [bv] at ho2 hkp2
      clear hlen e1 hn
      go_wp2
      go_roundw
      case rel => exact ⟨k + 1, by omega, by go_num, ho2, hkp2⟩
      case measure => exact meas_up hlt
    · obtain rfl : k = xs.length := by omega
      rw [turn_all] at ho
      have hr : RdB wr (.slice (some ⟨g, 0, none⟩) xs.length cap) (turn xs) := by
        have := ho.readsB.take xs.length (by omega)
        rwa [List.take_append_of_le_length (by rw [turn_length]; omega), List.take_of_length_le (by rw [turn_length]; omega)] at this
      obtain ⟨v1, w1, r1, o1, k1⟩ := run_appB_nil (P := Tryd.prog) (ty := 22) wr Tryd.underlying22 u8info hr (by rw [turn_length]; omega)
      clear hlen hn
      go_wp2_with (refine app_op r1 rfl rfl ?_)
      go_ret
      exact ⟨v1, rfl, o1.wide (fun k _ hk => ⟨by have := hkp.size; omega, hk.2⟩), ho.keepN k1, (hkp.thenN k1).mono (fun i _ e => by rw [e]; exact hg)⟩
/-- the first loop of 'spoils' -/
def SpoilRel (n : Nat) (F : Nat → Prop) (v : Value) (w : World) (i : Value) (wr : World) : Prop :=
  ∃ (k : Nat) (ys : List UInt8), k ≤ n ∧ i = .int .i64 k ∧ ys.length = n ∧ OwB wr 5 F v ys ∧ Kp F w wr
/-- .. the second -/
def SpoilRel2 (n : Nat) (F : Nat → Prop) (w : World) (v i : Value) (wr : World) : Prop :=
  ∃ (k : Nat) (ys : List UInt8), k ≤ 64 ∧ i = .int .i64 k ∧ ys.length = n + k ∧ OwB wr 5 (fun j => F j ∨ w.heap.size ≤ j) v ys ∧ Kp F w wr
set_option maxHeartbeats 800000 in
theorem spoils_c {v : Value} {xs : List UInt8} {F : Nat → Prop} {w : World} (h : OwB w 5 F v xs) (hb : xs.length ≤ 1000000000000) :
    Calls Tryd.prog 23 #[v] w fun e w' => e = .returned (.bool true) ∧ Kp F w w' := by
  obtain ⟨A, c, rfl, hc⟩ := h.readsB.form
  generalize hn : xs.length = n at *
  go_enter Tryd.func23, Tryd.ntmps23
  go_wp2_with fail
  go_loopw [3] (fun i wr => SpoilRel n F (.slice A n c) w i wr) (fun i _ => n - (intOf i).toNat)
  case atStart => exact ⟨0, xs, Nat.zero_le _, rfl, hn, by subst hn; exact h, Kp.refl _ _⟩
  case round =>
    clear h hn
    obtain ⟨k, ys, hk, rfl, hl, ho, hkp⟩ := hrel
    by_cases hlt : k < n
    · obtain ⟨g, cap, hv, hg, _⟩ := ho.form (by omega)
      rw [hl] at hv
      injection hv with h1 h2 h3
      subst h1
      have c1 := ho.byteAt hl.symm k (by omega)
      generalize ys[k]'(by omega) = b at c1
      simp only [bv] at c1
      have c2 := ho.frozenAt k
      have c3 : bits .xor .u8 (b.toNat : Int) 106 = ((b ^^^ 106).toNat : Int) := xor_bv b 106
      have ho2 := ho.putB hl.symm k (b ^^^ 106)
      have hkp2 : Kp F w (wr.setCell ⟨g, k, none⟩ (bv (b ^^^ 106))) := hkp.setCell (.inl hg) _
      have hl2 : (ys.set k (b ^^^ 106)).length = n := by rw [List.length_set]; exact hl
      have HL := Lib.hid hl2
      simp only [bv] at ho2 hkp2
      clear hl hl2
      go_wp2
      go_roundw
      case rel => exact ⟨k + 1, _, by omega, by go_num, HL.out, ho2, hkp2⟩
      case measure => exact meas_up hlt
    · obtain rfl : k = n := by omega
      have HL := Lib.hid hl
      clear hl
      go_wp2_with fail
      go_loopw [0, 5] (fun v i wr => SpoilRel2 k F w v i wr) (fun _ i _ => 64 - (intOf i).toNat)
      case atStart => exact ⟨0, ys, by omega, rfl, HL.out, ho.wide (fun _ _ h => .inl h), hkp⟩
      case round =>
        clear ho hkp HL
        obtain ⟨j, zs, hj, rfl, hl, ho, hkp⟩ := hrel
        obtain ⟨A1, c1, hv, hc1⟩ := ho.readsB.form
        rw [hl] at hv
        subst hv
        by_cases hlt : j < 64
        · have hx := RdB.one wr 5 (j : Int) (by omega) (by omega)
          obtain ⟨v1, w1, r1, o1, k1, _⟩ := run_appB (P := Tryd.prog) (ty := 22) (wr.alloc (.cells #[.int .u8 (j : Int)] 5)) Tryd.underlying22 u8info (ho.keepN ((Kp.refl _ _).alloc _)) hx (by simp; omega)
          clear hx
          have HL := Lib.hid hl
          clear hl
          go_wp2_with (refine app_op r1 rfl rfl ?_)
          go_roundw
          case rel =>
            have hz := hkp.size
            refine ⟨j + 1, _, by omega, by go_num, by have := HL.out; simp; omega, o1.wide ?_, ?_⟩
            · intro i _ hi
              rcases hi with hi | hi
              · exact hi
              · exact .inr (by have := hi.1; simp at this; omega)
            · exact (hkp.alloc _).trans k1 (fun _ _ h => h) (fun i hi e => by
                rcases ho.fit i e with h | h
                · exact h
                · omega)
          case measure => exact meas_up hlt
        · obtain rfl : j = 64 := by omega
          clear hl ho
          go_wp2
          go_ret
          exact ⟨rfl, hkp⟩
/-- what 'lent' hands out: where it lies, and its front -/
theorem lent_form {w1 : World} {F : Nat → Prop} {all : Value} {xs : List UInt8} (o : OwB w1 5 F all (xs ++ marks)) :
    ∃ g cap, all = .slice (some ⟨g, 0, none⟩) (xs.length + 8) cap ∧ F g ∧ xs.length + 8 ≤ cap ∧ RdB w1 (.slice (some ⟨g, 0, none⟩) xs.length cap) xs := by
  obtain ⟨g, cap, rfl, hg, hcap⟩ := o.form (by simp [marks])
  have hl : (xs ++ marks).length = xs.length + 8 := by simp [marks]
  have r := o.readsB.take xs.length (by omega)
  rw [List.take_left] at r
  rw [hl] at hcap
  exact ⟨g, cap, by rw [hl], hg, hcap, r⟩
/-- the front of what was lent, behind 'turned' -/
theorem turned_front {w : World} {F : Nat → Prop} {g n cap : Nat} {xs : List UInt8} (o : OwB w 5 F (.slice (some ⟨g, 0, none⟩) n cap) (turn xs ++ marks)) : RdB w (.slice (some ⟨g, 0, none⟩) xs.length cap) (turn xs) := by
  have hn := o.readsB.len
  have hl : (turn xs ++ marks).length = xs.length + 8 := by simp [marks, turn_length]
  have := o.readsB.take xs.length (by omega)
  rwa [List.take_append_of_le_length (by rw [turn_length]; omega), List.take_of_length_le (by rw [turn_length]; omega)] at this
end Go.Proofs.YtjhndppmpldfbaaDoor
