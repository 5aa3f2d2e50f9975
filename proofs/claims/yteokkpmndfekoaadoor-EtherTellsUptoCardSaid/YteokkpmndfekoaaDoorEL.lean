/- Two ways side by side; the calls on them, alike. -/
import Derived.Test.YteokkpmndfekoaaDoorEK
namespace Go.Proofs.YteokkpmndfekoaaDoor
open Go Go.RowKit
set_option maxRecDepth 100000

abbrev PT : Nat := 68
abbrev RT : Nat := 81
theorem WayX.keep {o : Bool} {T : Nat} {w w' : World} {F : Nat → Prop} {g n : Nat} {st : List (List UInt8 × Bool)} (h : WayX o T w F g n st) {S : Nat → Prop} (k : Kp S w w') (hs : ∀ i, F i → ¬ S i) : WayX o T w' F g n st := by
  obtain ⟨v, ls, h, e⟩ := h
  exact ⟨v, ls, h.keep k hs, e⟩
theorem WayX.keepN {o : Bool} {T : Nat} {w w' : World} {F : Nat → Prop} {g n : Nat} {st : List (List UInt8 × Bool)} (h : WayX o T w F g n st) (k : KpN w w') : WayX o T w' F g n st := h.keep k (fun _ _ x => x)
theorem WayX.lt {o : Bool} {T : Nat} {w : World} {F : Nat → Prop} {g n : Nat} {st : List (List UInt8 × Bool)} (h : WayX o T w F g n st) : g < w.heap.size := by
  obtain ⟨v, ls, h, e⟩ := h
  exact h.lt
theorem WayX.le {o : Bool} {T : Nat} {w : World} {F : Nat → Prop} {g n : Nat} {st : List (List UInt8 × Bool)} (h : WayX o T w F g n st) : st.length ≤ n ∧ n ≤ 1024 ∧ 1 ≤ n := by
  obtain ⟨v, ls, h, rfl⟩ := h
  exact ⟨by rw [stOf_len]; exact h.le, h.n2, h.n1⟩
theorem WayX.sm {o : Bool} {T : Nat} {w : World} {F : Nat → Prop} {g n : Nat} {st : List (List UInt8 × Bool)} (h : WayX o T w F g n st) : ∀ d ∈ st, d.1.length ≤ 2048 := by
  obtain ⟨v, ls, h, rfl⟩ := h
  intro d hd
  obtain ⟨x, hx, rfl⟩ := List.mem_map.1 hd
  exact h.sm x hx
theorem WayX.row {o : Bool} {T : Nat} {w : World} {F : Nat → Prop} {g n : Nat} {st : List (List UInt8 × Bool)} (h : WayX o T w F g n st) : ∃ A c, w.cell? ⟨g, 1, none⟩ = some (.slice A st.length c) := by
  obtain ⟨v, ls, h, rfl⟩ := h
  obtain ⟨A, c, rfl, _⟩ := h.r.shape
  rw [stOf_len]
  exact ⟨A, c, h.c1⟩
theorem atS_some {st : List (List UInt8 × Bool)} {i : Int} {d : List UInt8 × Bool} (h : atS st i = some d) : ∃ j : Nat, i = (j : Int) ∧ ∃ hj : j < st.length, st[j] = d := by
  unfold atS at h
  split at h
  · cases h
  · obtain ⟨j, rfl⟩ := Int.eq_ofNat_of_zero_le (show 0 ≤ i by omega)
    rw [Int.toNat_natCast] at h
    obtain ⟨hj, e⟩ := List.getElem?_eq_some_iff.1 h
    exact ⟨j, rfl, hj, e⟩
def dropS (st : List (List UInt8 × Bool)) (i : Int) : Nat × List (List UInt8 × Bool) := match atS st i with
  | none => (4, st)
  | some _ => (0, st.eraseIdx i.toNat)
def LookP (w : World) (x : Option (List UInt8 × Bool)) (e : Ending) (w' : World) : Prop := match x with
  | none => BnoP w 4 e w'
  | some d => BokP w d.1 e w'
/-- what Take comes to -/
def TkP (o : Bool) (T : Nat) (w : World) (F : Nat → Prop) (g n : Nat) (st : List (List UInt8 × Bool)) (x : Option (List UInt8 × Bool)) (e : Ending) (w' : World) : Prop := match x with
  | none => BnoP w 4 e w'
  | some d => ∃ u, e = .returned (.tuple #[u, .int .i64 0]) ∧ RdB w' u d.1 ∧ ∃ F', WayX o T w' F' g n st ∧ Gr w w' F F' ∧ Kp F w w'
section
variable {w : World} {F : Nat → Prop} {g n : Nat} {st : List (List UInt8 × Bool)} {i : Int}
theorem wdrop_x (h : WayX true PT w F g n st) : Calls Tryd.prog 11 #[.pointer (some ⟨g, 0, none⟩), .int .i64 i] w (WOpP true PT w F g n (.int .i64 ((dropS st i).1 : Int)) (dropS st i).2) := by
  unfold dropS
  rcases hx : atS st i with _ | d
  · exact (way_drop_out h hx).mono fun e w' ⟨he, k⟩ => ⟨he, F, h.keepN k, Gr.refl _ _ _, k.mono (fun _ _ x => x.elim)⟩
  · obtain ⟨j, rfl, hj, -⟩ := atS_some hx
    rw [Int.toNat_natCast]
    exact way_drop h hj
theorem edrop_x (h : WayX false RT w F g n st) : Calls Tryd.prog 34 #[.pointer (some ⟨g, 0, none⟩), .int .i64 i] w (WOpP false RT w F g n (.int .i64 ((dropS st i).1 : Int)) (dropS st i).2) := by
  unfold dropS
  rcases hx : atS st i with _ | d
  · exact (edrop_no h hx).mono fun e w' ⟨he, k⟩ => ⟨he, F, h.keepN k, Gr.refl _ _ _, k.mono (fun _ _ x => x.elim)⟩
  · obtain ⟨j, rfl, hj, -⟩ := atS_some hx
    rw [Int.toNat_natCast]
    exact edrop_yes h hj
theorem wlook_x (h : WayX true PT w F g n st) : Calls Tryd.prog 7 #[.pointer (some ⟨g, 0, none⟩), .int .i64 i] w (LookP w (atS st i)) := by
  obtain ⟨v, ls, h, rfl⟩ := h
  rcases hx : atS (stOf ls) i with _ | d
  · have hout : i < 0 ∨ (ls.length : Int) ≤ i := by
      unfold atS at hx
      split at hx
      · exact .inl (by assumption)
      · have := List.getElem?_eq_none_iff.1 hx
        rw [stOf_len] at this
        omega
    exact way_look_out h hout
  · obtain ⟨j, rfl, hj, rfl⟩ := atS_some hx
    rw [stOf_len] at hj
    rw [stOf_get ls j hj]
    exact way_look h hj
theorem elook_x (h : WayX false RT w F g n st) : Calls Tryd.prog 32 #[.pointer (some ⟨g, 0, none⟩), .int .i64 i] w (LookP w (atS st i)) := by
  have h0 := h
  obtain ⟨v, ls, h, rfl⟩ := h
  rcases hx : atS (stOf ls) i with _ | d
  · exact elook_no h0 hx
  · obtain ⟨j, rfl, hj, rfl⟩ := atS_some hx
    rw [stOf_len] at hj
    rw [stOf_get ls j hj]
    exact elook_yes h hj
theorem wtake_x (h : WayX true PT w F g n st) : Calls Tryd.prog 8 #[.pointer (some ⟨g, 0, none⟩), .int .i64 i] w (TkP true PT w F g n (st.eraseIdx i.toNat) (atS st i)) := by
  rcases hx : atS st i with _ | d
  · exact way_take_out h hx
  · obtain ⟨j, rfl, hj, rfl⟩ := atS_some hx
    rw [Int.toNat_natCast]
    exact (way_take h hj).mono fun e w' ⟨u, he, ou, hX, k⟩ => ⟨u, he, ou.readsB, F, hX, Gr.refl _ _ _, k⟩
theorem etake_x (h : WayX false RT w F g n st) : Calls Tryd.prog 33 #[.pointer (some ⟨g, 0, none⟩), .int .i64 i] w (TkP false RT w F g n (st.eraseIdx i.toNat) (atS st i)) := by
  rcases hx : atS st i with _ | d
  · exact etake_no h hx
  · obtain ⟨j, rfl, hj, rfl⟩ := atS_some hx
    rw [Int.toNat_natCast]
    exact (etake_yes h hj)
end
/-- the program's way and the document's, both in new memory of their own -/
structure TwoW (w0 w : World) (F G : Nat → Prop) (g r n : Nat) (st tt : List (List UInt8 × Bool)) : Prop where
  p : WayX true PT w F g n st
  q : WayX false RT w G r n tt
  kp : KpN w0 w
  fl : ∀ x, F x → w0.heap.size ≤ x ∧ x < w.heap.size
  gl : ∀ x, G x → w0.heap.size ≤ x ∧ x < w.heap.size
  dj : ∀ x, F x → ¬ G x
section
variable {w0 w w' : World} {F G : Nat → Prop} {g r n : Nat} {st tt : List (List UInt8 × Bool)}
theorem TwoW.keep (h : TwoW w0 w F G g r n st tt) {S : Nat → Prop} (kp : Kp S w w') (h1 : ∀ x, F x → ¬ S x) (h2 : ∀ x, G x → ¬ S x) (h3 : ∀ x, S x → w0.heap.size ≤ x) : TwoW w0 w' F G g r n st tt :=
  ⟨h.p.keep kp h1, h.q.keep kp h2, h.kp.fresh kp h3, fun x hx => ⟨(h.fl x hx).1, Nat.lt_of_lt_of_le (h.fl x hx).2 kp.size⟩, fun x hx => ⟨(h.gl x hx).1, Nat.lt_of_lt_of_le (h.gl x hx).2 kp.size⟩, h.dj⟩
theorem TwoW.keepN (h : TwoW w0 w F G g r n st tt) (kp : KpN w w') : TwoW w0 w' F G g r n st tt := h.keep kp (fun _ _ x => x) (fun _ _ x => x) (fun _ x => x.elim)
theorem TwoW.left (h : TwoW w0 w F G g r n st tt) {F' : Nat → Prop} {st' : List (List UInt8 × Bool)} (hx : WayX true PT w' F' g n st') (hg : Gr w w' F F') (kp : Kp F w w') : TwoW w0 w' F' G g r n st' tt := by
  have hz := kp.size
  have hz0 := h.kp.size
  refine ⟨hx, h.q.keep kp (fun x hx hf => h.dj x hf hx), h.kp.fresh kp (fun x hx => (h.fl x hx).1), fun x hx => ?_, fun x hx => ⟨(h.gl x hx).1, by have := (h.gl x hx).2; omega⟩, fun x hx hG => ?_⟩
  · rcases hg x hx with hh | hh
    · have := h.fl x hh; exact ⟨this.1, by omega⟩
    · exact ⟨by have := hh.1; omega, hh.2⟩
  · rcases hg x hx with hh | hh
    · exact h.dj x hh hG
    · have := hh.1; have := (h.gl x hG).2; omega
theorem TwoW.right (h : TwoW w0 w F G g r n st tt) {G' : Nat → Prop} {tt' : List (List UInt8 × Bool)} (hx : WayX false RT w' G' r n tt') (hg : Gr w w' G G') (kp : Kp G w w') : TwoW w0 w' F G' g r n st tt' := by
  have hz := kp.size
  have hz0 := h.kp.size
  refine ⟨h.p.keep kp (fun x hx hf => h.dj x hx hf), hx, h.kp.fresh kp (fun x hx => (h.gl x hx).1), fun x hx => ⟨(h.fl x hx).1, by have := (h.fl x hx).2; omega⟩, fun x hx => ?_, fun x hF hx => ?_⟩
  · rcases hg x hx with hh | hh
    · have := h.gl x hh; exact ⟨this.1, by omega⟩
    · exact ⟨by have := hh.1; omega, hh.2⟩
  · rcases hg x hx with hh | hh
    · exact h.dj x hF hh
    · have := hh.1; have := (h.fl x hF).2; omega
end
/-- a step's answer: true; both ways are as they were told -/
def StepP (w0 w : World) (g r n : Nat) (e : Ending) (w' : World) : Prop := e = .returned (.bool true) ∧ w.heap.size ≤ w'.heap.size ∧ ∃ F G st, TwoW w0 w' F G g r n st st
end Go.Proofs.YteokkpmndfekoaaDoor
