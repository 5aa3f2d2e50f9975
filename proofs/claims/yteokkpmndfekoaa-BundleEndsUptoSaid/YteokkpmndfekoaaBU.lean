/- bundle.numbers, readPrevious, readAge, readHop. -/
import Derived.Test.YteokkpmndfekoaaBS
import Derived.Test.YteokkpmndfekoaaBC
namespace Go.Proofs.Yteokkpmndfekoaa
open Go Go.RowKit Go.ChangeShapes Go.WideShapes Go.ChangeAt
set_option maxRecDepth 100000

theorem u64info : (Try.prog.info? 22).map (fun i => (i.zero, i.size, i.bytes)) = some (some (.int .u64 0), 1, 8) := by kernel_rfl
theorem decNine_snoc (xs : List UInt8) : ∀ (n a : Nat) (f : Int), decNine xs (n + 1) a f = ((decNine xs n a f).1 ++ [(rNum xs (decNine xs n a f).2.1 (decNine xs n a f).2.2 281474976710655).1], (rNum xs (decNine xs n a f).2.1 (decNine xs n a f).2.2 281474976710655).2)
  | 0, a, f => rfl
  | n + 1, a, f => by
    have h1 : decNine xs (n + 1) a f = ((rNum xs a f 281474976710655).1 :: (decNine xs n (rNum xs a f 281474976710655).2.1 (rNum xs a f 281474976710655).2.2).1, (decNine xs n (rNum xs a f 281474976710655).2.1 (rNum xs a f 281474976710655).2.2).2) := rfl
    have h2 : decNine xs (n + 1 + 1) a f = ((rNum xs a f 281474976710655).1 :: (decNine xs (n + 1) (rNum xs a f 281474976710655).2.1 (rNum xs a f 281474976710655).2.2).1, (decNine xs (n + 1) (rNum xs a f 281474976710655).2.1 (rNum xs a f 281474976710655).2.2).2) := rfl
    rw [h2, decNine_snoc xs n, h1]
    rfl
theorem num48_c {w : World} {F : Nat → Prop} {g a : Nat} {f : Int} {v : Value} {xs : List UInt8} (h : RdrC w F g v xs a f) :
    Calls Try.prog 47 #[.pointer (some ⟨g, 0, none⟩), .int .u64 281474976710655] w fun e w' => e = .returned (n64 (rNum xs a f 281474976710655).1) ∧ RdrC w' F g v xs (rNum xs a f 281474976710655).2.1 (rNum xs a f 281474976710655).2.2 ∧ Kp F w w' :=
  rdNumber_c h (most := 281474976710655) (by omega)
def NumsP (xs : List UInt8) (k : Nat) (w : World) (e : Ending) (w' : World) : Prop :=
  ∃ v, e = .returned (.tuple #[v, .bool (decide (rEnd xs (decNine xs k 0 0).2.1 (decNine xs k 0 0).2.2 = 0))]) ∧ OwC w' 22 1 (Iv w.heap.size w'.heap.size) v k ((decNine xs k 0 0).1.map n64) ∧ KpN w w'
set_option maxHeartbeats 3200000 in
theorem numbers_c {w : World} {v : Value} {xs : List UInt8} {k : Nat} (h : RdB w v xs) (hl : xs.length ≤ 100000000000) (hk : k ≤ 1000) : Calls Try.prog 88 #[v, .int .i64 (k : Int)] w (NumsP xs k w) := by
  go_enter Try.func88, Try.ntmps88
  go_wp2_with fail
  refine (new_c h hl).mono ?_
  rintro e w1 ⟨g, u, rfl, hR, k1⟩
  have hz1 := k1.size
  have H1 := Lib.hid (And.intro hR k1)
  clear hR k1
  go_wp2_with fail
  go_loopw [7, 11] (fun o i wr => ∃ q : Nat, q ≤ k ∧ i = .int .i64 q ∧ OwC wr 22 1 (Iv w1.heap.size wr.heap.size) o q ((decNine xs q 0 0).1.map n64) ∧ RdrC wr (Iv w.heap.size w1.heap.size) g u xs (decNine xs q 0 0).2.1 (decNine xs q 0 0).2.2 ∧ KpN w wr ∧ w1.heap.size ≤ wr.heap.size) (fun _ i _ => k - (intOf i).toNat)
  case atStart => exact ⟨0, Nat.zero_le _, rfl, OwC.nil _ _ _ _, H1.out.1, H1.out.2, Nat.le_refl _⟩
  case round =>
    obtain ⟨q, hq, rfl, ho, hr, kw, hz⟩ := hrel
    by_cases hlt : q < k
    · have hn := num48_c hr
      have HS := Lib.hid (decNine_snoc xs q 0 0)
      obtain ⟨l, a, f, hd⟩ : ∃ l a f, decNine xs q 0 0 = (l, a, f) := ⟨_, _, _, rfl⟩
      have HO := Lib.hid (And.intro ho kw)
      rw [hd] at hn HO HS
      dsimp only at hn HO HS
      obtain ⟨r, ra, rf, hrr⟩ : ∃ r ra rf, rNum xs a f 281474976710655 = (r, ra, rf) := ⟨_, _, _, rfl⟩
      rw [hrr] at hn HS
      dsimp only at hn HS
      clear hr ho kw hd hrr
      go_wp2_with fail
      refine hn.mono ?_
      rintro e w2 ⟨rfl, hr2, k2⟩
      have hz2 := k2.size
      have kl := (Kp.refl (fun _ => False) w2).alloc (.cells #[n64 r] 22)
      have hx := (OwC.lit w2 22 1 1 #[n64 r] (by simp [maxLen]) rfl).reads
      have ho2 := (HO.out.1.keep k2 (fun i hi hi2 => by have := hi.1; have := hi2.2; omega)).keepN kl
      have hzl : (w2.alloc (.cells #[n64 r] 22)).heap.size = w2.heap.size + 1 := by simp
      obtain ⟨v3, w3, r3, o3, k3, e3⟩ := run_app (P := Try.prog) (w2.alloc (.cells #[n64 r] 22)) (ty := 82) Try.underlying82 u64info rfl (by omega) ho2 hx (fun u hu => by simp at hu; subst hu; rfl) (by omega) (by omega)
      have hz3 := k3.size
      have kf : Kp (Iv w1.heap.size wr.heap.size) (w2.alloc (.cells #[n64 r] 22)) w3 := k3.mono (fun i _ hi => ho2.fit i hi)
      have hr3 := (hr2.keepN kl).keep kf (fun i h1 h2 => by have := h1.2; have := h2.1; omega)
      have k03 : KpN w w3 := ((HO.out.2.fresh k2 (fun i hi => hi.1)).thenN kl).fresh kf (fun i hi => by have := hi.1; omega)
      have o4 : OwC w3 22 1 (Iv w1.heap.size w3.heap.size) v3 (q + 1) ((decNine xs (q + 1) 0 0).1.map n64) := by
        rw [HS.out, List.map_append]
        refine o3.wide (fun i hi hh => ?_)
        rcases hh with hh | hh
        · exact ⟨hh.1, hi⟩
        · exact ⟨by have := hh.1; omega, hi⟩
      have HF := Lib.hid (And.intro o4 (And.intro hr3 (And.intro k03 (show w1.heap.size ≤ w3.heap.size by omega))))
      clear hr2 k2 kl hx ho2 hzl o3 k3 e3 hz3 kf hr3 k03 o4 hz2
      go_wp2_with (at_builtin; refine app_op r3 rfl rfl ?_)
      go_roundw
      case rel => exact ⟨q + 1, by omega, by go_num, HF.out.1, by rw [HS.out]; exact HF.out.2.1, HF.out.2.2.1, HF.out.2.2.2⟩
      case measure => exact meas_up hlt
    · obtain rfl : q = k := by omega
      have he := rdEnd_c hr
      have HO := Lib.hid (And.intro ho (And.intro kw hz))
      obtain ⟨z, hz'⟩ : ∃ z, rEnd xs (decNine xs q 0 0).2.1 (decNine xs q 0 0).2.2 = z := ⟨_, rfl⟩
      have HZ := Lib.hid hz'
      rw [hz'] at he
      clear hr ho kw hz hz'
      go_wp2_with fail
      refine he.mono ?_
      rintro e w2 ⟨rfl, hr2, k2⟩
      have hz2 := k2.size
      have o4 : OwC w2 22 1 (Iv w.heap.size w2.heap.size) _ q ((decNine xs q 0 0).1.map n64) := (HO.out.1.keep k2 (fun i hi hi2 => by have := hi.1; have := hi2.2; omega)).wide (fun i hi hh => ⟨by have := hh.1; omega, hi⟩)
      have k02 : KpN w w2 := HO.out.2.1.fresh k2 (fun i hi => hi.1)
      have HF := Lib.hid (And.intro o4 k02)
      clear hr2 k2 o4 k02 hz2
      go_wp2
      go_ret2
      exact ⟨_, by rw [HZ.out]; rfl, HF.out.1, HF.out.2⟩
def Two2P (xs : List UInt8) (w : World) (e : Ending) (w' : World) : Prop := e = .returned (.tuple #[.agg #[n64 (two xs).1, n64 (two xs).2.1], .bool (two xs).2.2]) ∧ KpN w w'
theorem decNine_two (xs : List UInt8) : (decNine xs 2 0 0).1 = [(two xs).1, (two xs).2.1] ∧ decide (rEnd xs (decNine xs 2 0 0).2.1 (decNine xs 2 0 0).2.2 = 0) = (two xs).2.2 := ⟨rfl, rfl⟩
theorem decNine_one (xs : List UInt8) : (decNine xs 1 0 0).1 = [(one xs).1] ∧ decide (rEnd xs (decNine xs 1 0 0).2.1 (decNine xs 1 0 0).2.2 = 0) = (one xs).2 := ⟨rfl, rfl⟩
theorem numbers_two {w : World} {v : Value} {xs : List UInt8} (h : RdB w v xs) (hl : xs.length ≤ 100000000000) : Calls Try.prog 88 #[v, .int .i64 2] w fun e w' => ∃ g c, e = .returned (.tuple #[.slice (some ⟨g, 0, none⟩) 2 c, .bool (two xs).2.2]) ∧ g < w'.heap.size ∧ (w'.cell? ⟨g, 0, none⟩ = some (n64 (two xs).1) ∧ w'.cell? ⟨g, 1, none⟩ = some (n64 (two xs).2.1)) ∧ KpN w w' := by
  refine (numbers_c h hl (k := 2) (by omega)).mono ?_
  rintro e w' ⟨u, rfl, o, k⟩
  obtain ⟨h1, h2⟩ := decNine_two xs
  rw [h1] at o
  obtain ⟨g, c, rfl, -, -⟩ := o.form (by omega)
  exact ⟨g, c, by rw [h2], o.lt g rfl, ⟨o.cellAt 0 (by omega), o.cellAt 1 (by omega)⟩, k⟩
theorem numbers_one {w : World} {v : Value} {xs : List UInt8} (h : RdB w v xs) (hl : xs.length ≤ 100000000000) : Calls Try.prog 88 #[v, .int .i64 1] w fun e w' => ∃ g c, e = .returned (.tuple #[.slice (some ⟨g, 0, none⟩) 1 c, .bool (one xs).2]) ∧ w'.cell? ⟨g, 0, none⟩ = some (n64 (one xs).1) ∧ KpN w w' := by
  refine (numbers_c h hl (k := 1) (by omega)).mono ?_
  rintro e w' ⟨u, rfl, o, k⟩
  obtain ⟨h1, h2⟩ := decNine_one xs
  rw [h1] at o
  obtain ⟨g, c, rfl, -, -⟩ := o.form (by omega)
  exact ⟨g, c, by rw [h2], o.cellAt 0 (by omega), k⟩
set_option maxHeartbeats 1600000 in
theorem readAge_c {w : World} {v : Value} {xs : List UInt8} (h : RdB w v xs) (hl : xs.length ≤ 100000000000) : Calls Try.prog 70 #[v] w fun e w' => e = .returned (.tuple #[n64 (one xs).1, .bool (one xs).2]) ∧ KpN w w' := by
  have hN := numbers_one h hl
  obtain ⟨a, b, hab⟩ : ∃ a b, one xs = (a, b) := ⟨_, _, rfl⟩
  rw [hab] at hN ⊢
  clear hab
  go_enter Try.func70, Try.ntmps70
  go_wp2_with fail
  refine hN.mono ?_
  rintro e w1 ⟨g, c, rfl, hc, k1⟩
  go_wp2
  go_ret2
  exact ⟨rfl, k1⟩
end Go.Proofs.Yteokkpmndfekoaa
