/- OctetOwn: what the calls do. -/
import Derived.Test.YtjhndppmpldfbaaDoorPU
import Derived.Test.YtjhndppmpldfbaaDoorOB
import Derived.Test.YtjhndppmpldfbaaDoorOC2
import Derived.Test.YtjhndppmpldfbaaDoorOW
import Derived.Test.YtjhndppmpldfbaaDoorO4
import Derived.Test.YtjhndppmpldfbaaDoorP9
import Derived.Test.YtjhndppmpldfbaaDoorOK
import Derived.Test.YtjhndppmpldfbaaDoorOR2
import Derived.Deep.DeepCutAuto
import Derived.Deep.CutBlock
namespace Go.Proofs.YtjhndppmpldfbaaDoor
open Go Go.RowKit

theorem rowinfo : (Tryd.prog.info? 22).map (fun i => (i.zero, i.size, i.bytes)) = some (some (.slice none 0 0), 1, 24) := by kernel_rfl
/-- what the seven calls hand out -/
def asksS (xs : List UInt8) (n : Nat) (at_ : Int) (mask : Nat) : List (List UInt8) := [xs ++ sd n, xs ++ lb xs, xs ++ sl xs, xs, burst xs at_ mask, xs, xs]
def AsksP (xs : List UInt8) (n : Nat) (at_ : Int) (mask : Nat) (w : World) (e : Ending) (w' : World) : Prop :=
  ∃ u ls, e = .returned u ∧ ls.map Prod.snd = asksS xs n at_ mask ∧ Own2 w' 22 5 (Iv w.heap.size w'.heap.size) u ls ∧ KpN w w'
theorem rBytes_lb (xs : List UInt8) (h : xs.length < 18446744073709551616) : rBytes (lb xs) 0 0 (xs.length : Int) = (xs, (lb xs).length, 0) := by
  have := rBytes_laid (xs := lb xs) (ys := xs) (r := []) (a := 0) h (by simp)
  simpa using this
theorem rTake_all (xs : List UInt8) : rTake xs 0 0 (xs.length : Int) = (xs, xs.length, 0) := by
  rw [rTake, if_neg (by simp), if_neg (by omega), if_neg (by omega)]
  simp
set_option maxRecDepth 100000 in
set_option maxHeartbeats 3200000 in
theorem asks_c {v : Value} {xs : List UInt8} {n mask : Nat} {at_ : Int} {w : World} (h : RdB w v xs) (ht : TabOk w) (hb : xs.length ≤ 1000000000) (hn : n < 18446744073709551616) (ha : -9223372036854775808 ≤ at_ ∧ at_ ≤ 9223372036854775807) (hm : mask < 4294967296) :
    Calls Tryd.prog 44 #[v, .int .u64 (n : Int), .int .i64 at_, .int .u32 (mask : Int)] w (AsksP xs n at_ mask w) := by
  obtain ⟨A, c, rfl, hc⟩ := h.form
  have HB := Lib.hid (rBytes_lb xs (by omega))
  have HT := Lib.hid (rTake_all xs)
  have HU := Lib.hid (unsealS_seal xs)
  have hlb := lb_length xs (by omega)
  have hsl := sl_length xs
  have HSL := Lib.hid hsl
  clear hsl
  go_enter Tryd.func44, Tryd.ntmps44
  go_wp2_with fail
  refine (refSealed_c h (by omega)).mono ?_
  rintro e w1 ⟨u1, rfl, o1, k1⟩
  go_wp2_with fail
  have hC := unseal_c o1.readsB (ht.keepN k1) (by rw [List.length_append, HSL.out]; omega)
  rw [HU.out] at hC
  refine hC.mono ?_
  rintro e w2 ⟨u, rfl, o2, k2⟩
  clear hC
  have k02 := k1.thenN k2
  go_wp2_with fail
  refine (refBytes_c (RdB.nil _) (h.keepN k02) (by simp; omega)).mono ?_
  rintro e w3 ⟨u3, rfl, o3, k3⟩
  rw [List.nil_append] at o3
  go_wp2_with fail
  refine (new_c o3.readsB (by omega)).mono ?_
  rintro e w4 ⟨g, v4, rfl, r4, k4⟩
  have k04 := (k02.thenN k3).thenN k4
  go_wp2_with fail
  refine (new_c (h.keepN k04) (by omega)).mono ?_
  rintro e w5 ⟨g', v5, rfl, s5, k5⟩
  have k05 := k04.thenN k5
  have r5 := r4.keepN k5
  have u5 := ((o2.keepN k3).keepN k4).keepN k5
  have hz1 := k1.size
  have hz2 := k2.size
  have hz3 := k3.size
  have hz4 := k4.size
  have hz5 := k5.size
  clear o1 o2 o3 r4 k1 k2 k3 k4 k5 k02 k04 HU
  go_wp2_with fail
  refine (number_c (h.keepN k05) hn (by omega)).mono ?_
  rintro e w7 ⟨a7, rfl, p7, k7⟩
  have k07 := k05.thenN k7
  go_wp2_with fail
  refine (bytes_c (h.keepN k07) (h.keepN k07) (by omega)).mono ?_
  rintro e w8 ⟨a8, rfl, p8, k8⟩
  have k08 := k07.thenN k8
  go_wp2_with fail
  refine (sealed_c (h.keepN k08) (ht.keepN k08) (by omega)).mono ?_
  rintro e w9 ⟨a9, rfl, p9, k9⟩
  have k09 := k08.thenN k9
  go_wp2_with fail
  refine (burst_c (h.keepN k09) ha hm (by omega)).mono ?_
  rintro e w10 ⟨a10, rfl, p10, k10⟩
  have k010 := k09.thenN k10
  have k510 := ((k7.thenN k8).thenN k9).thenN k10
  have hz7 := k7.size
  have hz8 := k8.size
  have hz9 := k9.size
  have hz10 := k10.size
  have hC := rdBytes_c (most := (xs.length : Int)) (r5.keepN k510) (by omega) (fun i hi => by have := hi.2; omega)
  rw [HB.out] at hC
  go_wp2_with fail
  refine hC.mono ?_
  rintro e w11 ⟨a11, rfl, p11, r11, k11⟩
  clear hC
  have hz11 := k11.size
  have hD := rdTake_c (n := (xs.length : Int)) ((s5.keepN k510).keep k11 (fun i h1 h2 => by have := h1.1; have := h2.2; omega)) (by omega)
  rw [HT.out] at hD
  go_wp2_with fail
  refine hD.mono ?_
  rintro e w12 ⟨a12, rfl, p12, r12, k12⟩
  clear hD
  have hz12 := k12.size
  obtain ⟨_, _, rfl, -⟩ := p7.readsB.form
  obtain ⟨_, _, rfl, -⟩ := p8.readsB.form
  obtain ⟨_, _, rfl, -⟩ := p9.readsB.form
  obtain ⟨_, _, rfl, -⟩ := p10.readsB.form
  obtain ⟨_, _, rfl, -⟩ := p11.readsB.form
  obtain ⟨_, _, rfl, -⟩ := p12.readsB.form
  obtain ⟨_, _, rfl, -⟩ := u5.readsB.form
  have kf : Kp (fun i => Iv w3.heap.size w5.heap.size i) w10 w12 := (k11.trans k12 (fun i _ hi => ⟨hi.1, by have := hi.2; omega⟩) (fun i _ hi => ⟨by have := hi.1; omega, hi.2⟩))
  have q7 := ((((p7.keepN k8).keepN k9).keepN k10)).keep kf (fun i h1 h2 => by have := h1.1; have := h2.2; omega)
  have q8 := (((p8.keepN k9).keepN k10)).keep kf (fun i h1 h2 => by have := h1.1; have := h2.2; omega)
  have q9 := (p9.keepN k10).keep kf (fun i h1 h2 => by have := h1.1; have := h2.2; omega)
  have q3 := (u5.keepN k510).keep kf (fun i h1 h2 => by have := h1.2; have := h2.1; omega)
  have q10 := p10.keep kf (fun i h1 h2 => by have := h1.1; have := h2.2; omega)
  have q11 := p11.keep k12 (fun i h1 h2 => by have := h1.1; have := h2.2; omega)
  have L0 := OwL.nil w12 5
  have L1 := L0.snoc q7 (fun i h1 => h1.elim)
  have L2 := L1.snoc q8 (fun i h1 h2 => by rcases h1 with h1 | h1; exact h1; have := h1.2; have := h2.1; omega)
  have L3 := L2.snoc q9 (fun i h1 h2 => by rcases h1 with (h1 | h1) | h1; exact h1; all_goals (have := h1.2; have := h2.1; omega))
  have L4 := L3.snoc q3 (fun i h1 h2 => by rcases h1 with ((h1 | h1) | h1) | h1; exact h1; all_goals (have := h1.1; have := h2.2; omega))
  have L5 := L4.snoc q10 (fun i h1 h2 => by rcases h1 with (((h1 | h1) | h1) | h1) | h1; exact h1; all_goals (have := h1.2; have := h2.1; omega))
  have L6 := L5.snoc q11 (fun i h1 h2 => by rcases h1 with ((((h1 | h1) | h1) | h1) | h1) | h1; exact h1; all_goals (have := h1.2; have := h2.1; omega))
  have L7 := L6.snoc p12 (fun i h1 h2 => by rcases h1 with (((((h1 | h1) | h1) | h1) | h1) | h1) | h1; exact h1; all_goals (have := h1.2; have := h2.1; omega))
  have LL := L7.lit (T := 22) (by simp) _ rfl 7 (by simp)
  have hfz := k05.size
  have LW := LL.wide (G := Iv w.heap.size (w12.heap.size + 1)) (fun i hi hG => by
    refine ⟨?_, by simpa using hi⟩
    rcases hG with (((((((h1 | h1) | h1) | h1) | h1) | h1) | h1) | h1) | h1
    · exact h1.elim
    all_goals (have := h1.1; omega))
  have kw : KpN w w12 := k010.fresh kf (fun i hi => by have := hi.1; omega)
  clear L0 L1 L2 L3 L4 L5 L6 L7 LL kf
  go_wp2
  go_ret
  have LV := LW.wide (G := Iv w.heap.size (World.alloc w12 _).heap.size) (fun i hi h => ⟨h.1, hi⟩)
  simp only [List.nil_append, List.cons_append, List.map_cons, List.map_nil, List.length_append] at LV
  refine ⟨_, _, rfl, ?_, LV, kw.alloc _⟩
  rfl
end Go.Proofs.YtjhndppmpldfbaaDoor
