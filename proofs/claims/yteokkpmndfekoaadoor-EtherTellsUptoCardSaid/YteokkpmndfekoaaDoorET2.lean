/- EtherTells: the book tells what the way holds. -/
import Derived.Test.YteokkpmndfekoaaDoorET1
namespace Go.Proofs.YteokkpmndfekoaaDoor
open Go Go.RowKit
set_option maxRecDepth 100000

/-- the way, and the book apart from it -/
structure TellM (w0 w : World) (F B : Nat → Prop) (g n : Nat) (st : List (List UInt8 × Bool)) (bv : Value) (l : List Bk) : Prop where
  way : OneW w0 w F g n st
  book : BookM w B bv l
  bl : ∀ x, B x → w0.heap.size ≤ x ∧ x < w.heap.size
  dj : ∀ x, F x → ¬ B x
section
variable {w0 w w' : World} {F B : Nat → Prop} {g n : Nat} {st : List (List UInt8 × Bool)} {bv : Value} {l : List Bk}
theorem TellM.kp (h : TellM w0 w F B g n st bv l) : KpN w0 w := h.way.kp
theorem TellM.keep (h : TellM w0 w F B g n st bv l) {S : Nat → Prop} (kp : Kp S w w') (h1 : ∀ x, F x → ¬ S x) (h2 : ∀ x, B x → ¬ S x) (h3 : ∀ x, S x → w0.heap.size ≤ x) : TellM w0 w' F B g n st bv l :=
  ⟨h.way.keep kp h1 h3, h.book.keep kp h2, fun x hx => ⟨(h.bl x hx).1, Nat.lt_of_lt_of_le (h.bl x hx).2 kp.size⟩, h.dj⟩
theorem TellM.keepN (h : TellM w0 w F B g n st bv l) (kp : KpN w w') : TellM w0 w' F B g n st bv l := h.keep kp (fun _ _ x => x) (fun _ _ x => x) (fun _ x => x.elim)
theorem TellM.wayOp (h : TellM w0 w F B g n st bv l) {F' : Nat → Prop} {st' : List (List UInt8 × Bool)} (hX : WayX true PT w' F' g n st') (hG : Gr w w' F F') (kp : Kp F w w') : TellM w0 w' F' B g n st' bv l := by
  have hz := kp.size
  refine ⟨h.way.next hX hG kp, h.book.keep kp (fun x hb hf => h.dj x hf hb), fun x hx => ⟨(h.bl x hx).1, by have := (h.bl x hx).2; omega⟩, fun x hx hB => ?_⟩
  rcases hG x hx with hh | hh
  · exact h.dj x hh hB
  · have := hh.1; have := (h.bl x hB).2; omega
theorem TellM.bookOp (h : TellM w0 w F B g n st bv l) {B' : Nat → Prop} {bv' : Value} {l' : List Bk} (hb : BookM w' B' bv' l') (hg : ∀ b, B' b → B b ∨ Iv w.heap.size w'.heap.size b) (kp : Kp B w w') : TellM w0 w' F B' g n st bv' l' := by
  have hz := kp.size
  have hz0 := h.kp.size
  refine ⟨h.way.keep kp (fun x hf hb => h.dj x hf hb) (fun x hx => (h.bl x hx).1), hb, fun x hx => ?_, fun x hf hx => ?_⟩
  · rcases hg x hx with hh | hh
    · have := h.bl x hh; exact ⟨this.1, by omega⟩
    · exact ⟨by have := hh.1; omega, hh.2⟩
  · rcases hg x hx with hh | hh
    · exact h.dj x hf hh
    · have := hh.1; have := (h.way.fl x hf).2; omega
end
/-- an entry is a sealed text, with one burst at most -/
structure OkS (s : Bk) : Prop where
  sld : ∃ t, s.b = t ++ sl t
  len : s.b.length ≤ 2048
  hat : -9223372036854775808 ≤ s.at_ ∧ s.at_ ≤ 9223372036854775807
  hm : s.m < 4294967296
  ins : s.m ≠ 0 → insideB s.b.length s.at_ s.m = true
def nowS (s : Bk) : List UInt8 := burst s.b s.at_ s.m
theorem nowS_len (s : Bk) : (nowS s).length = s.b.length := burst_length _ _ _
theorem burst_zero (xs : List UInt8) (z : Int) : burst xs z 0 = xs := burst_same _ _ _ (fun j _ => by simp [hits])
theorem nowS_zero {s : Bk} (h : s.m = 0) : nowS s = s.b := by unfold nowS; rw [h]; exact burst_zero _ _
def stB (l : List Bk) : List (List UInt8 × Bool) := l.map fun s => (nowS s, decide (s.m ≠ 0))
theorem stB_len (l : List Bk) : (stB l).length = l.length := by simp [stB]
theorem stB_get (l : List Bk) (j : Nat) (h : j < l.length) : (stB l)[j]'(by rw [stB_len]; exact h) = (nowS l[j], decide (l[j].m ≠ 0)) := by simp [stB]
theorem stB_at {l : List Bk} {j : Nat} (h : j < l.length) : atS (stB l) (j : Int) = some (nowS l[j], decide (l[j].m ≠ 0)) := by rw [atS_in (by rw [stB_len]; exact h), stB_get l j h]
theorem stB_erase (l : List Bk) (j : Nat) : (stB l).eraseIdx j = stB (l.eraseIdx j) := by
  unfold stB
  rw [List.eraseIdx_eq_take_drop_succ, List.eraseIdx_eq_take_drop_succ]
  simp
theorem stB_push {l : List Bk} {s : Bk} (h : s.m = 0) : stB l ++ [(s.b, false)] = stB (l ++ [s]) := by simp [stB, nowS_zero h, h]
theorem stB_double {l : List Bk} (j : Nat) (h : j < l.length) : stB l ++ [(nowS l[j], decide (l[j].m ≠ 0))] = stB (l ++ [l[j]]) := by simp [stB]
theorem stB_turn {l : List Bk} {j : Nat} (h : j < l.length) (z : Int) {m : Nat} (hm : m ≠ 0) (h0 : l[j].m = 0) : (stB l).set j (burst (nowS l[j]) z m, true) = stB (l.set j { l[j] with at_ := z, m := m }) := by
  unfold stB
  rw [List.map_set, nowS_zero h0]
  simp [nowS, hm]
/-- what is turned is told -/
theorem turn_tells {s : Bk} (h : OkS s) {z : Int} {m : Nat} (hm : m ≠ 0) (hm2 : m < 4294967296) (hi : insideB s.b.length z m = true) : burst s.b z m ≠ s.b := by
  obtain ⟨t, ht⟩ := h.sld
  have hh := inside_hits hm hm2 hi
  rw [ht, List.length_append, sl_length] at hh
  rw [ht]
  exact (burst_told t z m hh).1
theorem now_tells {s : Bk} (h : OkS s) (hm : s.m ≠ 0) : (unsealS (nowS s)).2 ≠ 0 := by
  intro e
  obtain ⟨t, ht⟩ := h.sld
  have hh := inside_hits hm h.hm (h.ins hm)
  rw [ht, List.length_append, sl_length] at hh
  have h2 := (burst_told t s.at_ s.m hh).2
  rw [← ht] at h2
  have h3 : unsealS (nowS s) = ((unsealS (nowS s)).1, 0) := by rw [← e]
  exact h2 _ (unsealS_ok h3)
theorem now_whole {s : Bk} (h : OkS s) (hm : s.m = 0) : (unsealS (nowS s)).2 = 0 := by
  obtain ⟨t, ht⟩ := h.sld
  rw [nowS_zero hm, ht, unsealS_seal]
theorem OkS.turn {s : Bk} (h : OkS s) {z : Int} {m : Nat} (hz : -9223372036854775808 ≤ z ∧ z ≤ 9223372036854775807) (hm2 : m < 4294967296) (hi : insideB s.b.length z m = true) : OkS { s with at_ := z, m := m } := ⟨h.sld, h.len, hz, hm2, fun _ => hi⟩
/-- a place, whatever number is asked -/
theorem place_of (I : Int) {L : Nat} (h : 0 < L) : ∃ (t : Int) (k : Nat), I.tmod L = t ∧ -(L : Int) < t ∧ t < L ∧ (t + L).tmod L = (k : Int) ∧ k < L := by
  have h1 := Int.tmod_lt_of_pos I (show (0 : Int) < (L : Int) by omega)
  have h2 : -(L : Int) < I.tmod L := by
    rcases Int.le_total 0 I with hI | hI
    · have := Int.tmod_nonneg (L : Int) hI; omega
    · obtain ⟨J, rfl⟩ : ∃ J, I = -J := ⟨-I, by omega⟩
      rw [Int.neg_tmod]
      have := Int.tmod_lt_of_pos J (show (0 : Int) < (L : Int) by omega)
      omega
  refine ⟨I.tmod L, ((I.tmod L + L) % L).toNat, rfl, h2, h1, ?_, ?_⟩
  · rw [Int.tmod_eq_emod_of_nonneg (by omega)]
    have := Int.emod_nonneg (I.tmod L + L) (show (L : Int) ≠ 0 by omega)
    omega
  · have := Int.emod_lt_of_pos (I.tmod L + L) (show (0 : Int) < (L : Int) by omega)
    have := Int.emod_nonneg (I.tmod L + L) (show (L : Int) ≠ 0 by omega)
    omega
end Go.Proofs.YteokkpmndfekoaaDoor
