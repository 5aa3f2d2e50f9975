/- The statements against the document's disk: acts. -/
import Derived.Test.YthkbgbbejgpeaaaYK
namespace Go.Proofs.Ythkbgbbejgpeaaa
open Go Go.RowKit
set_option maxRecDepth 100000

def actD (d : Dk) (o : DOp) : Dk := if o.k = 1 then (writeD d o.i (textB o)).2 else if o.k = 2 then (flushD d).2 else if o.k = 3 then cutD d o.i else if o.k = 4 then crashD d o.ch else d
def ActP (w0 w : World) (F0 G0 : Nat → Prop) (g r k : Nat) (d : Dk) (e : Ending) (w' : World) : Prop := e = .returned (.bool true) ∧ Kp (fun x => F0 x ∨ G0 x) w w' ∧ ∃ F G k', k' ≤ k + 1 ∧ TwoM w0 w' F G g r k' d d
theorem ints_full (w : World) {v : Value} {zs : List Int} (h : RdI w v zs) (hl : zs.length ≤ 100000000) :
    ∃ v1 w1, (Builtin.append_ #[29, 29] 29 #[.slice (some ⟨w.heap.size, 0, none⟩) 0 0, v]).run Try.prog (w.alloc (.cells #[] 3)) = .ok v1 w1 ∧ OwI w1 (Iv w.heap.size w1.heap.size) v1 zs ∧ KpN w w1 := by
  have kl := (Kp.refl (fun _ => False) w).alloc (.cells #[] 3)
  have o0 := OwC.empty w 3 1
  obtain ⟨v', w', r, o, k, -⟩ := run_app (P := Try.prog) (t := 29) (ty := 29) (w.alloc (.cells #[] 3)) Try.underlying29 intInfo rfl (by omega) o0 (RdC.keepN h kl) (by intro u hu; simp at hu; obtain ⟨z, -, rfl⟩ := hu; rfl) (by omega) (by omega)
  have hz : (w.alloc (.cells #[] 3)).heap.size = w.heap.size + 1 := by simp
  have hz2 := k.size
  rw [List.nil_append, Nat.zero_add] at o
  exact ⟨v', w', r, OwC.wide o (fun y hy hf => by rcases hf with hf | hf <;> exact ⟨by have := hf.1; omega, hy⟩), kl.fresh k (fun y hy => by have hy : w.heap.size = y := Option.some.inj hy; omega)⟩
theorem ints_full2 (w w1 : World) {v : Value} {zs : List Int} (x y : Int) (o : OwI w1 (Iv w.heap.size w1.heap.size) v zs) (k1 : KpN w w1) (hl : zs.length ≤ 100000000) :
    ∃ fb cf w2, (Builtin.append_ #[29, 29] 29 #[v, .slice (some ⟨w1.heap.size, 0, none⟩) 2 2]).run Try.prog (w1.alloc (.cells #[.int .i64 x, .int .i64 y] 3)) = .ok (.slice (some ⟨fb, 0, none⟩) (zs.length + 2) cf) w2 ∧ OwI w2 (fun z => z = fb) (.slice (some ⟨fb, 0, none⟩) (zs.length + 2) cf) (zs ++ [x, y]) ∧ KpN w w2 ∧ w.heap.size ≤ fb ∧ fb < w2.heap.size ∧ zs.length + 2 ≤ cf := by
  have kl : KpN w1 (w1.alloc (.cells #[.int .i64 x, .int .i64 y] 3)) := (Kp.refl _ _).alloc _
  have hz := k1.size
  have h1 := OwC.lit w1 3 1 2 #[.int .i64 x, .int .i64 y] (by simp [maxLen]) rfl
  obtain ⟨v', w', r, o2, k, -⟩ := run_app (P := Try.prog) (t := 29) (ty := 29) (w1.alloc (.cells #[.int .i64 x, .int .i64 y] 3)) Try.underlying29 intInfo rfl (by omega) (OwC.keepN o kl) h1.reads (by intro u hu; simp at hu; rcases hu with rfl | rfl <;> rfl) (by omega) (by omega)
  have hz1 : (w1.alloc (.cells #[.int .i64 x, .int .i64 y] 3)).heap.size = w1.heap.size + 1 := by simp
  have hz2 := k.size
  obtain ⟨fb, cf, hv, hf, hcf⟩ := o2.form (by omega)
  subst hv
  refine ⟨fb, cf, w', r, ?_, (k1.alloc _).fresh k (fun i hi => (OwC.fit o i hi).1), ?_, o2.lt fb rfl, hcf⟩
  · unfold OwI
    have e1 : (zs ++ [x, y]).length = zs.length + 2 := by simp
    have e2 : (zs ++ [x, y]).map (Value.int .i64) = zs.map (Value.int .i64) ++ #[Value.int .i64 x, .int .i64 y].toList := by simp
    rw [e1, e2]
    exact ⟨o2.own, fun m hm => (Option.some.inj hm : fb = m).symm⟩
  · rcases hf with hf | hf
    · exact hf.1
    · have := hf.1; omega
theorem RdI.take {w : World} {A : Option Addr} {n c : Nat} {zs : List Int} (h : RdI w (.slice A n c) zs) (k : Nat) (hk : k ≤ n) : RdI w (.slice A k c) (zs.take k) := by
  have hn := rdI_len h
  subst hn
  have := RdC.take h k hk
  have hl : (zs.take k).length = k := by simp; omega
  unfold RdI
  rw [hl]
  simpa using this
set_option maxHeartbeats 6400000 in
theorem acts_other {w0 w : World} {F G : Nat → Prop} {g r k : Nat} {d : Dk} (h : TwoM w0 w F G g r k d d) {ok oi sz : Int} {b : UInt8} {rA cA : Option Addr} {rc CN cc : Nat} {RN : Nat} {raw : List UInt8} {ch : List Int} (hi : I64 oi) (hk1 : ok ≠ 1) (hk4 : ok ≠ 4) :
    Calls Try.prog 61 #[.agg #[.int .i64 ok, .int .i64 oi, bv b, .int .i64 sz, .slice rA RN rc, .slice cA CN cc], .pointer (some ⟨g, 0, none⟩), .pointer (some ⟨r, 0, none⟩)] w (ActP w0 w F G g r k (actD d ⟨ok, oi, b, sz, raw, ch⟩)) := by
  obtain ⟨BV, hBV⟩ : ∃ BV, bv b = BV := ⟨_, rfl⟩
  rw [hBV]
  clear hBV
  have kb := (Kp.refl (fun _ => False) w).alloc (.cells #[.int .i64 ok, .int .i64 oi, BV, .int .i64 sz, .slice rA RN rc, .slice cA CN cc] 100)
  have hbx : ∀ j v, #[Value.int .i64 ok, .int .i64 oi, BV, .int .i64 sz, .slice rA RN rc, .slice cA CN cc][j]? = some v → (w.alloc (.cells #[.int .i64 ok, .int .i64 oi, BV, .int .i64 sz, .slice rA RN rc, .slice cA CN cc] 100)).cell? ⟨w.heap.size, j, none⟩ = some v := fun j v hj => by
    rw [cell_of_row _ _ _ _ _ _ (heap_alloc_new _ _)]
    exact hj
  have hzb : w.heap.size < (w.alloc (.cells #[.int .i64 ok, .int .i64 oi, BV, .int .i64 sz, .slice rA RN rc, .slice cA CN cc] 100)).heap.size := by simp
  have b0 := hbx 0 _ rfl
  have b1 := hbx 1 _ rfl
  have H1 := Lib.hid (h.keepN kb)
  have hFb : ¬ F w.heap.size := fun e => by have := (h.fl _ e).2; omega
  obtain ⟨w1, hw1⟩ : ∃ w1, w.alloc (.cells #[.int .i64 ok, .int .i64 oi, BV, .int .i64 sz, .slice rA RN rc, .slice cA CN cc] 100) = w1 := ⟨_, rfl⟩
  rw [hw1] at kb hzb b1 H1
  have HW1 := Lib.hid hw1
  clear hbx h hw1
  go_enter Try.func61, Try.ntmps61
  have e1 : (ok == 1) = false := by simpa using hk1
  by_cases k2 : ok = 2
  · have hA : actD d ⟨ok, oi, b, sz, raw, ch⟩ = (flushD d).2 := by simp [actD, k2]
    have HA := Lib.hid hA
    clear hA
    subst k2
    go_wp2_with fail
    rw [HW1.out]
    refine (flush_x H1.out.dk).mono ?_
    rintro e w2 ⟨rfl, F2, k2, hk2, hx2, hg2, kp2⟩
    have h2 := H1.out.left hx2 hg2 kp2
    have H2 := Lib.hid h2
    have kp12 : Kp F w w2 := Kp.after kb kp2
    clear hx2 hg2 kp2 h2
    go_wp2_with fail
    obtain ⟨rb, tv, vv, vs, hr⟩ := H2.out.rf
    refine (flush_r hr).mono ?_
    rintro e w3 ⟨rfl, G3, hx3, hg3, kp3⟩
    have hfin : ActP w0 w F G g r k (actD d ⟨2, oi, b, sz, raw, ch⟩) (.returned (.bool true)) w3 := by
      rw [HA.out]
      exact ⟨rfl, kp12.trans kp3 (fun _ _ x => .inl x) (fun _ _ x => .inr x), F2, G3, k2, hk2, H2.out.right hx3 hg3 kp3⟩
    have HF := Lib.hid hfin
    clear hfin hr hx3 hg3 kp3
    obtain ⟨E, hE⟩ : ∃ E, (flushD d).1 = E := ⟨_, rfl⟩
    rw [hE]
    clear hE
    go_wp2_with fail
    go_ret
    first | exact HF.out | (simp only [BEq.rfl]; exact HF.out)
  · have e2 : (ok == 2) = false := by simpa using k2
    by_cases k3 : ok = 3
    · have hA : actD d ⟨ok, oi, b, sz, raw, ch⟩ = cutD d oi := by simp [actD, k3]
      have HA := Lib.hid hA
      clear hA
      subst k3
      go_wp2_with fail
      rw [HW1.out]
      refine (cut_x H1.out.dk hi).mono ?_
      rintro e w2 ⟨⟨u, rfl⟩, hx2, kp2⟩
      have h2 := H1.out.left hx2 (Gr.refl _ _ _) kp2
      have b12 : w2.cell? ⟨w.heap.size, 1, none⟩ = some (.int .i64 oi) := by rw [kp2.cell hzb hFb]; exact b1
      have H2 := Lib.hid h2
      have kp12 : Kp F w w2 := Kp.after kb kp2
      clear hx2 kp2 h2
      go_wp2_with fail
      obtain ⟨rb, tv, vv, vs, hr⟩ := H2.out.rf
      refine (cut_r hr hi).mono ?_
      rintro e w3 ⟨⟨u3, rfl⟩, hx3, kp3⟩
      have hfin : ActP w0 w F G g r k (actD d ⟨3, oi, b, sz, raw, ch⟩) (.returned (.bool true)) w3 := by
        rw [HA.out]
        have kp3' : Kp G w2 w3 := kp3.mono (fun m _ e => by rw [e]; exact hr.fit.1)
        exact ⟨rfl, kp12.trans kp3' (fun _ _ x => .inl x) (fun _ _ x => .inr x), F, G, k, by omega, H2.out.right ⟨rb, _, _, _, hx3⟩ (Gr.refl _ _ _) kp3'⟩
      have HF := Lib.hid hfin
      clear hfin hr hx3 kp3
      go_wp2_with fail
      go_ret
      exact HF.out
    · have hA : actD d ⟨ok, oi, b, sz, raw, ch⟩ = d := by simp [actD, hk1, k2, k3, hk4]
      have e3 : (ok == 3) = false := by simpa using k3
      have e4 : (ok == 4) = false := by simpa using hk4
      have hfin : ActP w0 w F G g r k (actD d ⟨ok, oi, b, sz, raw, ch⟩) (.returned (.bool true)) w1 := by
        rw [hA]
        exact ⟨rfl, kb.mono (fun _ _ x => x.elim), F, G, k, by omega, H1.out⟩
      have HF := Lib.hid hfin
      clear hfin hA
      go_wp2_with fail
      go_ret
      rw [HW1.out]
      exact HF.out
end Go.Proofs.Ythkbgbbejgpeaaa
