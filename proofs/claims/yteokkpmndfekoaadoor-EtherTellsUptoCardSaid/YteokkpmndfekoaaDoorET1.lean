/- EtherTells: the book in memory; without, inside, now. -/
import Derived.Test.YteokkpmndfekoaaDoorER
import Derived.Test.YteokkpmndfekoaaDoorOU
import Derived.Test.YteokkpmndfekoaaDoorPU
import Derived.Test.YteokkpmndfekoaaDoorP7
namespace Go.Proofs.YteokkpmndfekoaaDoor
open Go Go.RowKit
set_option maxRecDepth 100000

abbrev ST : Nat := 56
theorem stInfo : (Tryd.prog.info? ST).map (fun i => (i.zero, i.size, i.bytes)) = some (some (.agg #[.slice none 0 0, .int .i64 0, .int .u32 0]), 3, 40) := by kernel_rfl
/-- an entry: where its bytes lie, what they are, the burst -/
structure Bk where
  v : Value
  b : List UInt8
  at_ : Int
  m : Nat
def bkC (s : Bk) : List Value := [s.v, .int .i64 s.at_, .int .u32 (s.m : Int)]
def bkCs (l : List Bk) : List Value := l.flatMap bkC
theorem bkCs_cons (s : Bk) (l : List Bk) : bkCs (s :: l) = bkC s ++ bkCs l := rfl
theorem bkCs_len (l : List Bk) : (bkCs l).length = l.length * 3 := by
  induction l with
  | nil => rfl
  | cons d r ih => rw [bkCs_cons, List.length_append, ih, List.length_cons]; simp [bkC]; omega
theorem bkCs_app (xs ys : List Bk) : bkCs (xs ++ ys) = bkCs xs ++ bkCs ys := by simp [bkCs]
theorem bkCs_one (s : Bk) : bkCs [s] = bkC s := by simp [bkCs]
theorem bkCs_take (ls : List Bk) : ∀ k, (bkCs ls).take (k * 3) = bkCs (ls.take k) := by
  induction ls with
  | nil => intro k; simp [bkCs]
  | cons d r ih =>
    intro k
    cases k with
    | zero => simp [bkCs]
    | succ k =>
      rw [show (k + 1) * 3 = k * 3 + 1 + 1 + 1 by omega, List.take_succ_cons, bkCs_cons, bkCs_cons, ← ih k]
      simp [bkC]
theorem bkCs_drop (ls : List Bk) : ∀ k, (bkCs ls).drop (k * 3) = bkCs (ls.drop k) := by
  induction ls with
  | nil => intro k; simp [bkCs]
  | cons d r ih =>
    intro k
    cases k with
    | zero => simp [bkCs]
    | succ k =>
      rw [show (k + 1) * 3 = k * 3 + 1 + 1 + 1 by omega, List.drop_succ_cons, bkCs_cons, ← ih k]
      simp [bkC]
theorem bkCs_get (ls : List Bk) : ∀ (i : Nat) (h : i < ls.length) (k : Nat), k < 3 → (bkCs ls)[i * 3 + k]? = (bkC ls[i])[k]? := by
  induction ls with
  | nil => intro i h; simp at h
  | cons d r ih =>
    intro i h k hk
    cases i with
    | zero =>
      rw [bkCs_cons, Nat.zero_mul, Nat.zero_add, List.getElem?_append_left (by simp [bkC]; exact hk)]
      rfl
    | succ i =>
      rw [bkCs_cons, List.getElem?_append_right (by simp [bkC]; omega), show (i + 1) * 3 + k - (bkC d).length = i * 3 + k by simp [bkC]; omega, ih i (by simpa using h) k hk]
      rfl
theorem bkCs_set (ls : List Bk) (d : Bk) (z : Int) (m : Nat) : ∀ j (h : j < ls.length), ls[j] = d → bkCs (ls.set j { d with at_ := z, m := m }) = ((bkCs ls).set (j * 3 + 1) (.int .i64 z)).set (j * 3 + 2) (.int .u32 (m : Int)) := by
  induction ls with
  | nil => intro j h; simp at h
  | cons x r ih =>
    intro j h hd
    cases j with
    | zero => obtain rfl : x = d := hd; rfl
    | succ j =>
      rw [List.set_cons_succ, bkCs_cons, bkCs_cons, ih j (by simpa using h) (by simpa using hd), show (j + 1) * 3 = j * 3 + 1 + 1 + 1 by omega]
      simp [bkC]
/-- the book -/
structure BookM (w : World) (B : Nat → Prop) (v : Value) (l : List Bk) : Prop where
  row : OwC w ST 3 B v l.length (bkCs l)
  each : ∀ s ∈ l, OwB w 5 B s.v s.b
section
variable {w w' : World} {B G : Nat → Prop} {v : Value} {l : List Bk}
theorem BookM.nil (w : World) (B : Nat → Prop) : BookM w B (.slice none 0 0) [] := ⟨OwC.nil w ST 3 B, fun _ h => (List.not_mem_nil h).elim⟩
theorem BookM.keep (h : BookM w B v l) {S : Nat → Prop} (k : Kp S w w') (hs : ∀ i, B i → ¬ S i) : BookM w' B v l := ⟨h.row.keep k hs, fun s hsm => (h.each s hsm).keep k hs⟩
theorem BookM.keepN (h : BookM w B v l) (k : KpN w w') : BookM w' B v l := h.keep k (fun _ _ x => x)
theorem BookM.wide (h : BookM w B v l) (hg : ∀ k, k < w.heap.size → B k → G k) : BookM w G v l := ⟨h.row.wide hg, fun s hsm => (h.each s hsm).wide hg⟩
theorem BookM.out (h : BookM w B v l) : ∀ s ∈ l, ∀ k, v.ownBlock = some k → s.v.ownBlock ≠ some k := fun s hs => h.row.neT (h.each s hs) (by decide)
theorem BookM.one (h : BookM w B v l) : ∀ u ∈ bkCs l, u.oneCell' = true := by
  intro u hu
  obtain ⟨s, hs, hu⟩ := List.mem_flatMap.1 hu
  have h1 := (h.each s hs).oneCell
  simp [bkC] at hu
  rcases hu with rfl | rfl | rfl <;> first | exact h1 | rfl
theorem BookM.shape (h : BookM w B v l) : ∃ A c, v = .slice A l.length c ∧ l.length ≤ c := by
  obtain ⟨_, A, c, rfl, hc, _⟩ := h.row.reads
  exact ⟨A, c, rfl, hc⟩
theorem BookM.form (h : BookM w B v l) (hn : 0 < l.length) : ∃ g cap, v = .slice (some ⟨g, 0, none⟩) l.length cap ∧ B g ∧ l.length ≤ cap := h.row.form hn
theorem BookM.cellAt {g n cap : Nat} (h : BookM w B (.slice (some ⟨g, 0, none⟩) n cap) l) (i : Nat) (hi : i < l.length) (k : Nat) (hk : k < 3) : w.cell? ⟨g, i * 3 + k, none⟩ = (bkC l[i])[k]? := by
  rw [← bkCs_get l i hi k hk, ← add_plain' g (i * 3 + k)]
  have hlt : i * 3 + k < (bkCs l).length := by rw [bkCs_len]; omega
  rw [List.getElem?_eq_getElem hlt]
  exact h.row.own.cells (g := g) rfl _ _ (List.getElem?_eq_getElem hlt)
theorem BookM.c0 {g n cap : Nat} (h : BookM w B (.slice (some ⟨g, 0, none⟩) n cap) l) (i : Nat) (hi : i < l.length) : w.cell? ⟨g, i * 3, none⟩ = some l[i].v := h.cellAt i hi 0 (by omega)
theorem BookM.c1 {g n cap : Nat} (h : BookM w B (.slice (some ⟨g, 0, none⟩) n cap) l) (i : Nat) (hi : i < l.length) : w.cell? ⟨g, i * 3 + 1, none⟩ = some (.int .i64 l[i].at_) := h.cellAt i hi 1 (by omega)
theorem BookM.c2 {g n cap : Nat} (h : BookM w B (.slice (some ⟨g, 0, none⟩) n cap) l) (i : Nat) (hi : i < l.length) : w.cell? ⟨g, i * 3 + 2, none⟩ = some (.int .u32 (l[i].m : Int)) := h.cellAt i hi 2 (by omega)
theorem BookM.frozenAt {g n cap : Nat} (h : BookM w B (.slice (some ⟨g, 0, none⟩) n cap) l) (j : Nat) : w.frozen? ⟨g, j, none⟩ = false := by
  rcases h.row.own.2 with ⟨hv, _⟩ | ⟨g', cap', cur, hv, _, hgg, _⟩
  · cases hv
  · injection hv with h1
    injection h1 with h1
    injection h1 with h1
    subst h1
    exact frozen_of_row w _ j cur ST hgg
/-- one more -/
theorem BookM.push (h : BookM w B v l) {s : Bk} (ou : OwB w 5 B s.v s.b) {x : Value} (hx : RdC w 3 x 1 (bkC s)) (hn : l.length ≤ 1000000) :
    ∃ v' w', (Builtin.append_ #[54, 54] 54 #[v, x]).run Tryd.prog w = .ok v' w' ∧ BookM w' (fun k => B k ∨ Iv w.heap.size w'.heap.size k) v' (l ++ [s]) ∧ Kp B w w' := by
  have h1s : ∀ u ∈ bkC s, u.oneCell' = true := by
    intro u hu
    have h1 := ou.oneCell
    simp [bkC] at hu
    rcases hu with rfl | rfl | rfl <;> first | exact h1 | rfl
  obtain ⟨v', w', hr, h1, h2, h3⟩ := run_app w (ty := 54) Tryd.underlying54 stInfo rfl (by omega) h.row hx h1s (by omega) (by omega)
  refine ⟨v', w', hr, ⟨?_, fun y hy => ?_⟩, h2.mono (fun i _ e => h.row.fit i e)⟩
  · rw [List.length_append, List.length_singleton, bkCs_app, bkCs_one]
    exact h1
  · rcases List.mem_append.1 hy with hy | hy
    · exact ((h.each y hy).keepB h2 (fun i hi hi2 => h.out y hy i hi2 hi)).wide (fun _ _ x => .inl x)
    · obtain rfl := List.mem_singleton.1 hy
      exact (ou.keepB h2 (fun i hi hi2 => h.row.neT ou (by decide) i hi2 hi)).wide (fun _ _ x => .inl x)
/-- an entry's burst is told -/
theorem BookM.set {g n cap : Nat} (h : BookM w B (.slice (some ⟨g, 0, none⟩) n cap) l) (j : Nat) (hj : j < l.length) (z : Int) (m : Nat) :
    BookM ((w.setCell ⟨g, j * 3 + 1, none⟩ (.int .i64 z)).setCell ⟨g, j * 3 + 2, none⟩ (.int .u32 (m : Int))) B (.slice (some ⟨g, 0, none⟩) n cap) (l.set j { l[j] with at_ := z, m := m }) ∧ Kp (fun k => k = g) w ((w.setCell ⟨g, j * 3 + 1, none⟩ (.int .i64 z)).setCell ⟨g, j * 3 + 2, none⟩ (.int .u32 (m : Int))) := by
  have hn : n = l.length := by
    obtain ⟨A, c, hv, _⟩ := h.row.reads.2
    injection hv
  subst hn
  have ks : Kp (fun k => k = g) w ((w.setCell ⟨g, j * 3 + 1, none⟩ (.int .i64 z)).setCell ⟨g, j * 3 + 2, none⟩ (.int .u32 (m : Int))) := ((Kp.refl (fun k => k = g) w).setCell (p := ⟨g, j * 3 + 1, none⟩) (.inl rfl) _).setCell (p := ⟨g, j * 3 + 2, none⟩) (.inl rfl) _
  have hk : ∀ s ∈ l, OwB ((w.setCell ⟨g, j * 3 + 1, none⟩ (.int .i64 z)).setCell ⟨g, j * 3 + 2, none⟩ (.int .u32 (m : Int))) 5 B s.v s.b := fun s hs => (h.each s hs).keepB ks (fun i hi e => h.out s hs i (by rw [e]; rfl) hi)
  refine ⟨⟨?_, fun s hs => ?_⟩, ks⟩
  · rw [List.length_set, bkCs_set l l[j] z m j hj rfl]
    exact ⟨((h.row.own.stored _ _).1.stored _ _).1, h.row.fit⟩
  · rcases List.mem_or_eq_of_mem_set hs with hs | rfl
    · exact hk s hs
    · exact hk l[j] (List.getElem_mem hj)
end
theorem RdC.dropN {w : World} {size n c g : Nat} {cs : List Value} (h : RdC w size (.slice (some ⟨g, 0, none⟩) n c) n cs) (k : Nat) (hk : k ≤ n) {A : Addr} (hA : A = ⟨g, k * size, none⟩ ∨ n = k) : RdC w size (.slice (some A) (n - k) (c - k)) (n - k) (cs.drop (k * size)) := h.dropR k hk hA
def WithoutP (w : World) (B : Nat → Prop) (l : List Bk) (j : Nat) (e : Ending) (w' : World) : Prop := ∃ v, e = .returned v ∧ BookM w' (fun k => B k ∨ Iv w.heap.size w'.heap.size k) v (l.eraseIdx j) ∧ KpN w w'
set_option maxHeartbeats 3200000 in
theorem without_c {w : World} {B : Nat → Prop} {v : Value} {l : List Bk} {j : Nat} (h : BookM w B v l) (hj : j < l.length) (hn : l.length ≤ 1000000) :
    Calls Tryd.prog 20 #[v, .int .i64 (j : Int)] w (WithoutP w B l j) := by
  obtain ⟨gr, vc, rfl, -, hvc⟩ := h.form (by omega)
  obtain ⟨m, hm⟩ : ∃ m, l.length = m := ⟨_, rfl⟩
  have hone := h.one
  have hrow := h.row
  rw [hm] at hrow hj hn hvc
  rw [hm]
  obtain ⟨v3, w3, r3, o3, k3, e3⟩ := run_app (P := Tryd.prog) w (ty := 54) Tryd.underlying54 stInfo rfl (by omega) (F := fun _ => False) (OwC.nil w ST 3 _) (hrow.reads.take j (by omega)) (fun u hu => hone u (List.mem_of_mem_take hu)) (by omega) (by omega)
  rw [List.nil_append] at o3
  have k3 : KpN w w3 := k3.mono (fun i _ hi => by simp [Value.ownBlock] at hi)
  have hrow3 := hrow.keepN k3
  obtain ⟨A, hA, hA2⟩ : ∃ A, (if vc = j + 1 then some (⟨gr, 0, none⟩ : Addr) else some ⟨gr, (j + 1) * 3, none⟩) = some A ∧ (A = ⟨gr, (j + 1) * 3, none⟩ ∨ m = j + 1) := by
    split
    · exact ⟨_, rfl, .inr (by omega)⟩
    · exact ⟨_, rfl, .inl rfl⟩
  have hrd4 := hrow3.reads.dropR (j + 1) (by omega) hA2
  obtain ⟨v4, w4, r4, o4, k4, e4⟩ := run_app (P := Tryd.prog) w3 (ty := 54) Tryd.underlying54 stInfo rfl (by omega) o3 hrd4 (fun u hu => hone u (List.mem_of_mem_drop hu)) (by omega) (by omega)
  have hb3 : ∀ i, v3.ownBlock = some i → w.heap.size ≤ i := fun i hi => by
    rcases o3.fit i hi with hf | hf
    · exact hf.elim
    · exact hf.1
  have hz3 := k3.size
  have hz4 := k4.size
  have k24 : KpN w w4 := k3.fresh k4 (fun i hi => hb3 i hi)
  have hcs : (bkCs l).take (j * 3) ++ (bkCs l).drop ((j + 1) * 3) = bkCs (l.eraseIdx j) := by rw [List.eraseIdx_eq_take_drop_succ, bkCs_app, ← bkCs_take, ← bkCs_drop]
  have hle2 : (l.eraseIdx j).length = m - 1 := by rw [List.length_eraseIdx_of_lt (by rw [hm]; exact hj), hm]
  have hR : BookM w4 (fun k => B k ∨ Iv w.heap.size w4.heap.size k) v4 (l.eraseIdx j) := by
    refine ⟨?_, fun s hs => ((h.each s ((List.eraseIdx_sublist l j).subset hs)).keepN k24).wide (fun _ _ x => .inl x)⟩
    rw [hle2, ← hcs, show m - 1 = 0 + j + (m - (j + 1)) by omega]
    refine o4.wide (fun k _ hk => .inr ?_)
    rcases hk with (hk | hk) | hk
    · exact hk.elim
    · exact ⟨hk.1, by have := hk.2; omega⟩
    · exact ⟨by have := hk.1; omega, hk.2⟩
  have HFIN := Lib.hid (And.intro hR k24)
  have hjm : j ≤ vc := by omega
  have hjm1 : j + 1 ≤ vc := by omega
  have hjm2 : j + 1 ≤ m := by omega
  clear hR hle2 hcs k24 hb3 o4 k4 e4 hrd4 hrow3 k3 o3 e3 hone hrow h hA2
  go_enter Tryd.func20, Tryd.ntmps20
  go_wp2_with (first | ((with_reducible show wpList _ _ _ (Oper.mk (some 10) (Op.call _) _ _ _ _ :: _) _ _); refine app_op r3 rfl rfl ?_) | ((with_reducible show wpList _ _ _ (Oper.mk (some 16) (Op.call _) _ _ _ _ :: _) _ _); refine app_op r4 rfl rfl ?_) | fail)
  go_ret
  exact ⟨_, rfl, HFIN.out.1, HFIN.out.2⟩
set_option maxHeartbeats 3200000 in
theorem inside_c {n mask : Nat} {at_ : Int} {w : World} (hn : n ≤ 1000000000) (ha : -9223372036854775808 ≤ at_ ∧ at_ ≤ 9223372036854775807) (hm : mask < 4294967296) :
    Calls Tryd.prog 21 #[.int .i64 (n : Int), .int .i64 at_, .int .u32 (mask : Int)] w fun e w' => e = .returned (.bool (insideB n at_ mask)) ∧ w = w' := by
  have HI := Lib.hid (inside_iff n at_ mask)
  go_enter Tryd.func21, Tryd.ntmps21
  go_wp2_with fail
  go_loop [7] (fun j => ∃ q : Nat, q ≤ 32 ∧ j = .int .i64 q ∧ ∀ i : Nat, i < q → mask / 2 ^ i % 2 = 1 → -(i : Int) ≤ at_ ∧ at_ < 8 * (n : Int) - i) (fun j => 32 - (intOf j).toNat)
  case atStart => exact ⟨0, Nat.zero_le _, rfl, fun i hi => by omega⟩
  case round =>
    obtain ⟨q, hq, rfl, hall⟩ := hrel
    have HA := Lib.hid hall
    clear hall
    by_cases hlt : q < 32
    · have hmb := maskBit mask q hm
      by_cases b1 : mask / 2 ^ q % 2 = 1
      · rw [b1] at hmb
        by_cases c1 : at_ < -(q : Int)
        · have hb : insideB n at_ mask = false := by
            rcases Bool.eq_false_or_eq_true (insideB n at_ mask) with e | e
            · have := (HI.out.1 e q hlt b1).1
              omega
            · exact e
          have HB := Lib.hid hb
          clear hb
          go_wp2
          go_ret
          exact ⟨by rw [HB.out]; rfl, rfl⟩
        · by_cases c2 : 8 * (n : Int) - 1 - q < at_
          · have hb : insideB n at_ mask = false := by
              rcases Bool.eq_false_or_eq_true (insideB n at_ mask) with e | e
              · have := (HI.out.1 e q hlt b1).2
                omega
              · exact e
            have HB := Lib.hid hb
            clear hb
            go_wp2
            go_ret
            exact ⟨by rw [HB.out]; rfl, rfl⟩
          · go_wp2
            go_round
            case rel =>
              refine ⟨q + 1, by omega, by go_num, fun i hi hbi => ?_⟩
              by_cases he : i = q
              · subst he
                omega
              · exact HA.out i (by omega) hbi
            case measure => exact meas_up hlt
      · have hb0 : mask / 2 ^ q % 2 = 0 := by omega
        rw [hb0] at hmb
        go_wp2
        go_round
        case rel =>
          refine ⟨q + 1, by omega, by go_num, fun i hi hbi => ?_⟩
          by_cases he : i = q
          · subst he
            omega
          · exact HA.out i (by omega) hbi
        case measure => exact meas_up hlt
    · obtain rfl : q = 32 := by omega
      have hb := HI.out.2 HA.out
      have HB := Lib.hid hb
      clear hb
      go_wp2
      go_ret
      exact ⟨by rw [HB.out]; rfl, rfl⟩
theorem now_c {w : World} {A : Option Addr} {L c : Nat} {xs : List UInt8} {at_ : Int} {m : Nat} (h : RdB w (.slice A L c) xs) (ha : -9223372036854775808 ≤ at_ ∧ at_ ≤ 9223372036854775807) (hm : m < 4294967296) (hb : xs.length ≤ 100000000000) :
    Calls Tryd.prog 23 #[.agg #[.slice A L c, .int .i64 at_, .int .u32 (m : Int)]] w (GotB 5 w (burst xs at_ m)) := by
  have kl := (Kp.refl (fun _ => False) w).alloc (.cells #[.slice A L c, .int .i64 at_, .int .u32 (m : Int)] ST)
  have hB := burst_c (h.keepN kl) ha hm hb
  have HB := Lib.hid (And.intro hB kl)
  clear hB h hb
  go_enter Tryd.func23, Tryd.ntmps23
  go_wp2_with fail
  refine HB.out.1.mono ?_
  rintro e w2 ⟨u, rfl, ou, k2⟩
  go_wp2
  go_ret
  have hz : (w.alloc (.cells #[.slice A L c, .int .i64 at_, .int .u32 (m : Int)] ST)).heap.size = w.heap.size + 1 := by simp
  exact got_of (ou.wide (fun k hk h => ⟨by have := h.1; omega, hk⟩)) (HB.out.2.thenN k2)
end Go.Proofs.YteokkpmndfekoaaDoor
