/- A disk, what of it a caller must know; the calls by it. -/
import Derived.Test.YthkbgbbejgpeaaaJB
namespace Go.Proofs.Ythkbgbbejgpeaaa
open Go Go.RowKit
set_option maxRecDepth 100000

/-- the disk behind the pointer to block g; all its memory lies in F -/
def DiskX (w : World) (F : Nat → Prop) (g k : Nat) (d : Dk) : Prop := ∃ bd bt m D sl, DiskM w F g bd bt m k D sl d
/-- what is F' was F, or is new -/
def Gr (w w' : World) (F F' : Nat → Prop) : Prop := ∀ b, F' b → F b ∨ Iv w.heap.size w'.heap.size b
theorem Gr.refl (w w' : World) (F : Nat → Prop) : Gr w w' F F := fun _ h => .inl h
theorem DiskX.keep {w w' : World} {F S : Nat → Prop} {g k : Nat} {d : Dk} (h : DiskX w F g k d) (kp : Kp S w w') (hs : ∀ i, F i → ¬ S i) : DiskX w' F g k d := by
  obtain ⟨bd, bt, m, D, sl, h⟩ := h
  exact ⟨bd, bt, m, D, sl, h.keep kp hs⟩
theorem DiskX.keepN {w w' : World} {F : Nat → Prop} {g k : Nat} {d : Dk} (h : DiskX w F g k d) (kp : KpN w w') : DiskX w' F g k d := h.keep kp (fun _ _ x => x)
theorem DiskX.wide {w : World} {F G : Nat → Prop} {g k : Nat} {d : Dk} (h : DiskX w F g k d) (hg : ∀ i, i < w.heap.size → F i → G i) : DiskX w G g k d := by
  obtain ⟨bd, bt, m, D, sl, h⟩ := h
  exact ⟨bd, bt, m, D, sl, h.wide hg⟩
theorem DiskX.n1 {w : World} {F : Nat → Prop} {g k : Nat} {d : Dk} (h : DiskX w F g k d) : 1 ≤ d.n := by obtain ⟨_, _, _, _, _, h⟩ := h; exact h.n1
theorem DiskX.n2 {w : World} {F : Nat → Prop} {g k : Nat} {d : Dk} (h : DiskX w F g k d) : d.n ≤ 65536 := by obtain ⟨_, _, _, _, _, h⟩ := h; exact h.n2
theorem DiskX.len {w : World} {F : Nat → Prop} {g k : Nat} {d : Dk} (h : DiskX w F g k d) : ∀ i, i < d.n → (d.du i).length = 128 := by obtain ⟨_, _, _, _, _, h⟩ := h; exact h.len
theorem DiskX.clen {w : World} {F : Nat → Prop} {g k : Nat} {d : Dk} (h : DiskX w F g k d) : ∀ i, i < d.n → ∀ s ∈ d.ca i, s.length = 128 := by obtain ⟨_, _, _, _, _, h⟩ := h; exact h.clen
theorem DiskX.cnt {w : World} {F : Nat → Prop} {g k : Nat} {d : Dk} (h : DiskX w F g k d) : ∀ i, i < d.n → (d.ca i).length ≤ k := by obtain ⟨_, _, _, _, _, h⟩ := h; exact h.cnt
theorem DiskX.fb {w : World} {F : Nat → Prop} {g k : Nat} {d : Dk} (h : DiskX w F g k d) : -1 ≤ d.fuse ∧ d.fuse ≤ 9223372036854775807 := by obtain ⟨_, _, _, _, _, h⟩ := h; exact h.fb
theorem DiskX.fit {w : World} {F : Nat → Prop} {g k : Nat} {d : Dk} (h : DiskX w F g k d) : F g ∧ g < w.heap.size := by obtain ⟨_, _, _, _, _, h⟩ := h; exact ⟨h.fit.1, h.lt.1⟩
/-- a call that changes the disk: its answer u, the disk behind it -/
def DOpP (w : World) (F : Nat → Prop) (g k : Nat) (u : Value) (d : Dk) (e : Ending) (w' : World) : Prop := e = .returned u ∧ ∃ F' k', k' ≤ k + 1 ∧ DiskX w' F' g k' d ∧ Gr w w' F F' ∧ Kp F w w'
def DNewX (w : World) (n : Nat) (e : Ending) (w' : World) : Prop := ∃ g, e = .returned (.tuple #[.pointer (some ⟨g, 0, none⟩), .int .i64 0]) ∧ DiskX w' (Iv w.heap.size w'.heap.size) g 0 (newD n) ∧ KpN w w'
theorem new_x {n : Nat} {w : World} (h1 : 1 ≤ n) (hn : n ≤ 65536) : Calls Try.prog 20 #[.int .i64 (n : Int)] w (DNewX w n) :=
  (dnewM_c h1 hn).mono fun _ _ ⟨g, bd, bt, m, he, h, k⟩ => ⟨g, he, ⟨bd, bt, m, _, _, h⟩, k⟩
def DLoadX (w : World) (r : Option Dk) (e : Ending) (w' : World) : Prop := match r with
  | some d => ∃ g, e = .returned (.tuple #[.pointer (some ⟨g, 0, none⟩), .int .i64 0]) ∧ DiskX w' (Iv w.heap.size w'.heap.size) g 0 d ∧ KpN w w'
  | none => e = .returned (.tuple #[.pointer none, .int .i64 1]) ∧ KpN w w'
theorem load_x {w : World} {A : Option Addr} {N c : Nat} {img : List UInt8} (hi : RdB w (.slice A N c) img) (hN : N ≤ 1000000000) : Calls Try.prog 22 #[.slice A N c] w (DLoadX w (loadD img)) :=
  (dload_c hi hN).mono fun e w' h => by
    unfold DLoadP at h
    unfold DLoadX
    cases hl : loadD img with
    | none => rw [hl] at h; exact h
    | some d =>
      rw [hl] at h
      obtain ⟨g, bd, bt, m, he, h, k⟩ := h
      exact ⟨g, he, ⟨bd, bt, m, _, _, h⟩, k⟩
section
variable {w : World} {F : Nat → Prop} {g k : Nat} {d : Dk}
theorem sectors_x (h : DiskX w F g k d) : Calls Try.prog 21 #[.pointer (some ⟨g, 0, none⟩)] w fun e w' => e = .returned (.int .i64 (d.n : Int)) ∧ w = w' := by
  obtain ⟨bd, bt, m, D, sl, h⟩ := h
  exact sectors_c h
theorem down_x (h : DiskX w F g k d) : Calls Try.prog 32 #[.pointer (some ⟨g, 0, none⟩)] w fun e w' => e = .returned (.bool d.off) ∧ w = w' := by
  obtain ⟨bd, bt, m, D, sl, h⟩ := h
  exact down_c h
theorem read_x {i : Int} (h : DiskX w F g k d) (hi : I64 i) : Calls Try.prog 26 #[.pointer (some ⟨g, 0, none⟩), .int .i64 i] w (DReadP (readD d i) w) := by
  obtain ⟨bd, bt, m, D, sl, h⟩ := h
  exact dread_c h hi
/-- a new row of bytes -/
def NewB (w : World) (xs : List UInt8) (e : Ending) (w' : World) : Prop := ∃ v, e = .returned v ∧ OwB w' 5 (Iv w.heap.size w'.heap.size) v xs ∧ KpN w w'
theorem image_x (h : DiskX w F g k d) : Calls Try.prog 24 #[.pointer (some ⟨g, 0, none⟩)] w (NewB w (imageD d)) := by
  obtain ⟨bd, bt, m, D, sl, h⟩ := h
  exact dimage_c h
theorem dirty_x (h : DiskX w F g k d) (hk : k ≤ 1000000000) : Calls Try.prog 30 #[.pointer (some ⟨g, 0, none⟩)] w (DDirtyP d w) := by
  obtain ⟨bd, bt, m, D, sl, h⟩ := h
  exact ddirty_c h hk
theorem write_x {i : Int} {v : Value} {xs : List UInt8} (h : DiskX w F g k d) (hb : RdB w v xs) (hbF : ∀ b, v.ownBlock = some b → ¬ F b) (hi : I64 i) (hk : k ≤ 1000000000) :
    Calls Try.prog 27 #[.pointer (some ⟨g, 0, none⟩), .int .i64 i, v] w (DOpP w F g k (.int .i64 ((writeD d i xs).1 : Int)) (writeD d i xs).2) := by
  obtain ⟨bd, bt, m, D, sl, h⟩ := h
  refine (dwrite_c h hb hbF hi (by omega)).mono ?_
  rintro e w' ⟨he, ⟨k', hk', F', D', sl', h', hF⟩, kp⟩
  exact ⟨he, F', k', hk', ⟨bd, bt, m, D', sl', h'⟩, hF, kp⟩
theorem flush_x (h : DiskX w F g k d) : Calls Try.prog 40 #[.pointer (some ⟨g, 0, none⟩)] w (DOpP w F g k (.int .i64 ((flushD d).1 : Int)) (flushD d).2) := by
  obtain ⟨bd, bt, m, D, sl, h⟩ := h
  refine (dflush_c h).mono ?_
  rintro e w' ⟨he, ⟨D', sl', h'⟩, kp⟩
  exact ⟨he, F, k, by omega, ⟨bd, bt, m, D', sl', h'⟩, Gr.refl _ _ _, kp⟩
/-- .. without an answer -/
def DDoP (w : World) (F : Nat → Prop) (g k : Nat) (d : Dk) (e : Ending) (w' : World) : Prop := (∃ u, e = .returned u) ∧ DiskX w' F g k d ∧ Kp F w w'
theorem cut_x {n : Int} (h : DiskX w F g k d) (hn : I64 n) : Calls Try.prog 45 #[.pointer (some ⟨g, 0, none⟩), .int .i64 n] w (DDoP w F g k (cutD d n)) := by
  obtain ⟨bd, bt, m, D, sl, h⟩ := h
  refine (cut_c h hn).mono ?_
  rintro e w' ⟨he, h', kp⟩
  exact ⟨he, ⟨bd, bt, m, D, sl, h'⟩, kp.mono (fun b _ e => by rw [e]; exact h.fit.1)⟩
theorem crash_x {A : Option Addr} {n c : Nat} {ch : List Int} (h : DiskX w F g k d) (hk : k ≤ 1000000000) (hch : RdI w (.slice A n c) ch) (hsep : ch ≠ [] → ∀ b, (Value.slice A n c).ownBlock = some b → ¬ F b) (hnm : n ≤ 1000000000) :
    Calls Try.prog 39 #[.pointer (some ⟨g, 0, none⟩), .slice A n c] w (DDoP w F g k (crashD d ch)) := by
  obtain ⟨bd, bt, m, D, sl, h⟩ := h
  refine (dcrash_c h hk hch hsep (rdI_len hch) hnm).mono ?_
  rintro e w' ⟨he, ⟨D', sl', h'⟩, kp⟩
  exact ⟨he, ⟨bd, bt, m, D', sl', h'⟩, kp⟩
end
end Go.Proofs.Ythkbgbbejgpeaaa
