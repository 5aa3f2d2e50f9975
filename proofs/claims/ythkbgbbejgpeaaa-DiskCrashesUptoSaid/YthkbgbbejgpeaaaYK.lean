/- The statements against the document's disk: two disks side by side; both. -/
import Derived.Test.YthkbgbbejgpeaaaYJ
namespace Go.Proofs.Ythkbgbbejgpeaaa
open Go Go.RowKit
set_option maxRecDepth 100000

/-- the program's disk d and the document's disk e, all in new memory of their own -/
structure TwoM (w0 w : World) (F G : Nat → Prop) (g r k : Nat) (d e : Dk) : Prop where
  dk : DiskX w F g k d
  rf : RefX w G r e
  kp : KpN w0 w
  fl : ∀ x, F x → w0.heap.size ≤ x ∧ x < w.heap.size
  gl : ∀ x, G x → w0.heap.size ≤ x ∧ x < w.heap.size
  dj : ∀ x, F x → ¬ G x
section
variable {w0 w w' : World} {F G : Nat → Prop} {g r k : Nat} {d e : Dk}
theorem TwoM.keep (h : TwoM w0 w F G g r k d e) {S : Nat → Prop} (kp : Kp S w w') (h1 : ∀ x, F x → ¬ S x) (h2 : ∀ x, G x → ¬ S x) (h3 : ∀ x, S x → w0.heap.size ≤ x) : TwoM w0 w' F G g r k d e :=
  ⟨h.dk.keep kp h1, h.rf.keep kp h2, h.kp.fresh kp h3, fun x hx => ⟨(h.fl x hx).1, Nat.lt_of_lt_of_le (h.fl x hx).2 kp.size⟩, fun x hx => ⟨(h.gl x hx).1, Nat.lt_of_lt_of_le (h.gl x hx).2 kp.size⟩, h.dj⟩
theorem TwoM.keepN (h : TwoM w0 w F G g r k d e) (kp : KpN w w') : TwoM w0 w' F G g r k d e := h.keep kp (fun _ _ x => x) (fun _ _ x => x) (fun _ x => x.elim)
theorem TwoM.left (h : TwoM w0 w F G g r k d e) {F' : Nat → Prop} {k' : Nat} {d' : Dk} (hx : DiskX w' F' g k' d') (hg : Gr w w' F F') (kp : Kp F w w') : TwoM w0 w' F' G g r k' d' e := by
  have hz := kp.size
  have hz0 := h.kp.size
  refine ⟨hx, h.rf.keep kp (fun x hx hf => h.dj x hf hx), h.kp.fresh kp (fun x hx => (h.fl x hx).1), fun x hx => ?_, fun x hx => ⟨(h.gl x hx).1, by have := (h.gl x hx).2; omega⟩, fun x hx hG => ?_⟩
  · rcases hg x hx with hh | hh
    · have := h.fl x hh; exact ⟨this.1, by omega⟩
    · exact ⟨by have := hh.1; omega, hh.2⟩
  · rcases hg x hx with hh | hh
    · exact h.dj x hh hG
    · have := hh.1; have := (h.gl x hG).2; omega
theorem TwoM.right (h : TwoM w0 w F G g r k d e) {G' : Nat → Prop} {e' : Dk} (hx : RefX w' G' r e') (hg : Gr w w' G G') (kp : Kp G w w') : TwoM w0 w' F G' g r k d e' := by
  have hz := kp.size
  have hz0 := h.kp.size
  refine ⟨h.dk.keep kp (fun x hx hf => h.dj x hx hf), hx, h.kp.fresh kp (fun x hx => (h.gl x hx).1), fun x hx => ⟨(h.fl x hx).1, by have := (h.fl x hx).2; omega⟩, fun x hx => ?_, fun x hF hx => ?_⟩
  · rcases hg x hx with hh | hh
    · have := h.gl x hh; exact ⟨this.1, by omega⟩
    · exact ⟨by have := hh.1; omega, hh.2⟩
  · rcases hg x hx with hh | hh
    · exact h.dj x hF hh
    · have := hh.1; have := (h.fl x hF).2; omega
end
def startD (img : List UInt8) (s : Int) : Option Dk := if img ≠ [] then loadD img else if 1 ≤ s ∧ s ≤ 65536 then some (newD s.toNat) else none
def BothP (w : World) (r : Option Dk) (e : Ending) (w' : World) : Prop := match r with
  | some d => ∃ F G g r, e = .returned (.tuple #[.pointer (some ⟨g, 0, none⟩), .pointer (some ⟨r, 0, none⟩), .bool true]) ∧ TwoM w w' F G g r 0 d d
  | none => e = .returned (.tuple #[.pointer none, .pointer none, .bool true]) ∧ KpN w w'
/-- a byte turned over -/
theorem bv_not (x : UInt8) : bv (~~~x) = .int .u8 (255 - (x.toNat : Int)) := by
  have h := x.toNat_lt
  have : (~~~x).toNat = 255 - x.toNat := by
    rw [UInt8.toNat_not]
    rfl
  unfold bv
  rw [this]
  congr 1
  omega
theorem u8_not (Y : Nat) (h : Y < 256) : bits BinOp.xor IntKind.u8 (if IntKind.u8.signed = true then -1 else IntKind.u8.max) (Y : Int) = 255 - (Y : Int) :=
  (by decide +kernel : ∀ Y : Fin 256, bits BinOp.xor IntKind.u8 (if IntKind.u8.signed = true then -1 else IntKind.u8.max) (Y.val : Int) = 255 - (Y.val : Int)) ⟨Y, h⟩
/-- .. as the program turns it -/
abbrev notZ (Y : Nat) : Int := bits BinOp.xor IntKind.u8 (if IntKind.u8.signed = true then -1 else IntKind.u8.max) (Y : Int)
theorem bv_notZ (x : UInt8) : bv (~~~x) = .int .u8 (bits BinOp.xor IntKind.u8 (if IntKind.u8.signed = true then -1 else IntKind.u8.max) (x.toNat : Int)) := by rw [bv_not, u8_not _ x.toNat_lt]
/-- a copy, with two bytes behind -/
theorem full_c (w : World) {v : Value} {xs : List UInt8} (h : RdB w v xs) (hl : xs.length ≤ 1000000000) :
    ∃ v1 w1, (Builtin.append_ #[28, 28] 28 #[.slice (some ⟨w.heap.size, 0, none⟩) 0 0, v]).run Try.prog (w.alloc (.cells #[] 5)) = .ok v1 w1 ∧ OwB w1 5 (Iv w.heap.size w1.heap.size) v1 xs ∧ KpN w w1 := by
  have kl := (Kp.refl (fun _ => False) w).alloc (.cells #[] 5)
  have o0 := OwB.lit w 5 [] #[] rfl (by simp)
  obtain ⟨v', w', r, o, k, -⟩ := run_appB (P := Try.prog) (ty := 28) (w.alloc (.cells #[] 5)) Try.underlying28 u8info o0 (h.keepN kl) (by simp; omega)
  have hz : (w.alloc (.cells #[] 5)).heap.size = w.heap.size + 1 := by simp
  have hz2 := k.size
  rw [List.nil_append] at o
  exact ⟨v', w', r, o.wide (fun y hy hf => by rcases hf with hf | hf <;> exact ⟨by have := hf.1; omega, hy⟩), kl.fresh k (fun y hy => by have hy : w.heap.size = y := Option.some.inj hy; omega)⟩
theorem full2_c (w w1 : World) {v : Value} {xs : List UInt8} (a b : UInt8) (x y : Int) (hx : bv a = .int .u8 x) (hy : bv b = .int .u8 y) (o : OwB w1 5 (Iv w.heap.size w1.heap.size) v xs) (k1 : KpN w w1) (hl : xs.length ≤ 1000000000) :
    ∃ fb cf w2, (Builtin.append_ #[28, 28] 28 #[v, .slice (some ⟨w1.heap.size, 0, none⟩) 2 2]).run Try.prog (w1.alloc (.cells #[.int .u8 x, .int .u8 y] 5)) = .ok (.slice (some ⟨fb, 0, none⟩) (xs.length + 2) cf) w2 ∧ OwB w2 5 (fun z => z = fb) (.slice (some ⟨fb, 0, none⟩) (xs.length + 2) cf) (xs ++ [a, b]) ∧ KpN w w2 ∧ w.heap.size ≤ fb ∧ fb < w2.heap.size ∧ xs.length + 2 ≤ cf := by
  have kl : KpN w1 (w1.alloc (.cells #[.int .u8 x, .int .u8 y] 5)) := (Kp.refl _ _).alloc _
  have hz := k1.size
  have h1 := OwB.lit w1 5 [a, b] #[.int .u8 x, .int .u8 y] (by rw [← hx, ← hy]; rfl) (by simp)
  obtain ⟨v', w', r, o2, k, -⟩ := run_appB (P := Try.prog) (ty := 28) (w1.alloc (.cells #[.int .u8 x, .int .u8 y] 5)) Try.underlying28 u8info (o.keepN kl) h1.readsB (by simp; omega)
  have hz1 : (w1.alloc (.cells #[.int .u8 x, .int .u8 y] 5)).heap.size = w1.heap.size + 1 := by simp
  have hz2 := k.size
  obtain ⟨fb, cf, hv, hf, hcf⟩ := o2.form (by simp)
  have hll : (xs ++ [a, b]).length = xs.length + 2 := by simp
  rw [hll] at hv hcf
  subst hv
  refine ⟨fb, cf, w', r, ⟨o2.c.own, fun m hm => (Option.some.inj hm : fb = m).symm⟩, (k1.alloc _).fresh k (fun i hi => (o.fit i hi).1), ?_, o2.lt fb rfl, hcf⟩
  rcases hf with hf | hf
  · exact hf.1
  · have := hf.1; omega
end Go.Proofs.Ythkbgbbejgpeaaa
