/- The document's disk in memory. -/
import Derived.Test.YthkbgbbejgpeaaaJC
namespace Go.Proofs.Ythkbgbbejgpeaaa
open Go Go.RowKit
set_option maxRecDepth 100000

/-- a row of ints of the call's own -/
def OwI (w : World) (F : Nat → Prop) (v : Value) (zs : List Int) : Prop := OwC w 3 1 F v zs.length (zs.map (Value.int .i64))
theorem OwI.rd {w : World} {F : Nat → Prop} {v : Value} {zs : List Int} (h : OwI w F v zs) : RdI w v zs := h.reads
theorem RdI.keepN {w w' : World} {v : Value} {zs : List Int} (h : RdI w v zs) (k : KpN w w') : RdI w' v zs := RdC.keepN h k
theorem RdI.keep {w w' : World} {v : Value} {zs : List Int} (h : RdI w v zs) {S : Nat → Prop} (k : Kp S w w') (hs : ∀ i, v.ownBlock = some i → ¬ S i) : RdI w' v zs := RdC.keep h k hs
def dirtyZ (d : Dk) : List Int := (dirtyD d).map fun (i : Nat) => (i : Int)
def versZ (d : Dk) : List Int := (dirtyD d).map fun (i : Nat) => ((d.ca i).length : Int)
theorem dirtyZ_len (d : Dk) : (dirtyZ d).length ≤ d.n := by
  unfold dirtyZ dirtyD
  rw [List.length_map]
  exact Nat.le_trans (List.length_filter_le _ _) (by simp)
theorem versZ_len (d : Dk) : (versZ d).length ≤ d.n := by
  unfold versZ dirtyD
  rw [List.length_map]
  exact Nat.le_trans (List.length_filter_le _ _) (by simp)
def DDirtyX (d : Dk) (w : World) (e : Ending) (w' : World) : Prop := ∃ v u, e = .returned (.tuple #[v, u]) ∧ OwI w' (Iv w.heap.size w'.heap.size) v (dirtyZ d) ∧ OwI w' (Iv w.heap.size w'.heap.size) u (versZ d) ∧ KpN w w'
theorem dirty_y {w : World} {F : Nat → Prop} {g k : Nat} {d : Dk} (h : DiskX w F g k d) (hk : k ≤ 1000000000) : Calls Try.prog 30 #[.pointer (some ⟨g, 0, none⟩)] w (DDirtyX d w) := by
  refine (dirty_x h hk).mono ?_
  rintro e w' ⟨v, u, he, h1, h2, k⟩
  refine ⟨v, u, he, ?_, ?_, k⟩
  · unfold OwI dirtyZ
    rw [List.length_map, List.map_map]
    exact h1
  · unfold OwI versZ
    rw [List.length_map, List.map_map]
    exact h2
theorem rdI_blk {w : World} {A : Option Addr} {n c : Nat} {zs : List Int} (h : RdI w (.slice A n c) zs) (hz : zs ≠ []) : ∀ b, (Value.slice A n c).ownBlock = some b → b < w.heap.size := by
  intro b hb
  obtain ⟨ad, rfl, hc⟩ := rdI_at h 0 (List.length_pos_iff.2 hz)
  have := World.block_lt_of_cell? w _ hc
  rw [add_block] at this
  have e : ad.block = b := Option.some.inj hb
  omega

theorem listInfoY : (Try.prog.info? 28).map (fun i => (i.zero, i.size, i.bytes)) = some (some (.slice none 0 0), 1, 24) := by kernel_rfl
theorem litY1_op (w : World) {A : Option Addr} {n c : Nat} {a : Act} {dst : Option Tmp} {ty : TypeId} {x : Operand} {pos : String} {af : Array Edge} {gd : Option (Nat × Bool)} (hx : a.eval x = .slice A n c) :
    (execOp a.eval { dst := dst, op := .buildSlice 67 1 #[(0, x)], type := ty, pos := pos, after := af, guard := gd }).run Try.prog w = .ok (.value (.slice (some ⟨w.heap.size, 0, none⟩) 1 1)) (w.alloc (.cells #[.slice A n c] 28)) := by
  unfold execOp
  simp only [List.map_toArray, List.map_cons, List.map_nil, hx, Sem.run_bind]
  have : (Instr.buildSlice 67 1 #[(0, .slice A n c)]).run Try.prog w = .ok (.slice (some ⟨w.heap.size, 0, none⟩) 1 1) (w.alloc (.cells #[.slice A n c] 28)) := by
    kernel_rfl
  rw [this]
  simp only [Result.andThen_ok, Sem.run_pure]
theorem own2_one {w : World} {F2 : Nat → Prop} {T U : Nat} {u : Value} {ys : List UInt8} (h : OwB w U F2 u ys) : Own2 (w.alloc (.cells #[u] T)) T U (fun k => F2 k ∨ Iv w.heap.size (w.heap.size + 1) k) (.slice (some ⟨w.heap.size, 0, none⟩) 1 1) [(u, ys)] :=
  (((OwL.nil w U).snoc h (fun _ x => x.elim)).lit (T := T) (by simp) #[u] rfl 1 rfl).wide (fun k _ hk => by
    rcases hk with hk | hk
    · exact .inl (hk.elim (fun x => x.elim) id)
    · exact .inr hk)
theorem litI1 (z : Int) (w : World) : OwI (w.alloc (.cells #[.int .i64 z] 3)) (fun x => x = w.heap.size) (.slice (some ⟨w.heap.size, 0, none⟩) 1 1) [z] := by
  have := OwC.lit w 3 1 1 #[.int .i64 z] (by simp [maxLen]) rfl
  exact this.wide (fun x _ hx => by have := hx.1; have := hx.2; omega)
/-- one int more -/
theorem run_appI1 {w : World} {F : Nat → Prop} {v : Value} {zs : List Int} (h : OwI w F v zs) (z : Int) (hl : zs.length ≤ 100000000) :
    ∃ v' w', (Builtin.append_ #[29, 29] 29 #[v, .slice (some ⟨w.heap.size, 0, none⟩) 1 1]).run Try.prog (w.alloc (.cells #[.int .i64 z] 3)) = .ok v' w' ∧ OwI w' (fun b => F b ∨ Iv w.heap.size w'.heap.size b) v' (zs ++ [z]) ∧ Kp (fun b => v.ownBlock = some b) w w' ∧ (v'.ownBlock = v.ownBlock ∨ ∀ b, v'.ownBlock = some b → w.heap.size ≤ b) := by
  have kl : KpN w (w.alloc (.cells #[.int .i64 z] 3)) := (Kp.refl _ _).alloc _
  have hv : OwC (w.alloc (.cells #[.int .i64 z] 3)) 3 1 F v zs.length (zs.map (Value.int .i64)) := OwC.keepN h kl
  obtain ⟨v', w', r, o, k, hat⟩ := run_app (P := Try.prog) (t := 29) (ty := 29) (w.alloc (.cells #[.int .i64 z] 3)) Try.underlying29 intInfo rfl (by omega) hv (litI1 z w).rd (by intro u hu; simp at hu; subst hu; rfl) (by simp; omega) (by simp; omega)
  have hz := kl.size
  refine ⟨v', w', r, ?_, Kp.after kl k, ?_⟩
  · unfold OwI
    rw [List.length_append, List.map_append]
    exact o.wide (fun b _ hb => by
      rcases hb with hb | hb
      · exact .inl hb
      · exact .inr ⟨by have := hb.1; omega, hb.2⟩)
  · rcases hat with h | h
    · exact .inl h
    · exact .inr (fun b hb => by rw [h] at hb; have e := Option.some.inj hb; omega)
/-- the document's disk at block g: its sectors in b; the values of their texts and versions -/
structure RefM (w : World) (F : Nat → Prop) (g b : Nat) (tv vv : Nat → Value) (vs : Nat → List (Value × List UInt8)) (d : Dk) : Prop where
  n1 : 1 ≤ d.n
  n2 : d.n ≤ 65536
  fit : F g ∧ F b
  ne : g ≠ b
  lt : g < w.heap.size ∧ b < w.heap.size
  c0 : w.cell? ⟨g, 0, none⟩ = some (.slice (some ⟨b, 0, none⟩) d.n d.n)
  c1 : w.cell? ⟨g, 1, none⟩ = some (.bool d.off)
  c2 : w.cell? ⟨g, 2, none⟩ = some (.int .i64 d.fuse)
  fz : ∀ j, w.frozen? ⟨g, j, none⟩ = false
  fb : -1 ≤ d.fuse ∧ d.fuse ≤ 9223372036854775807
  t0 : ∀ i, i < d.n → w.cell? ⟨b, i * 3, none⟩ = some (tv i)
  t1 : ∀ i, i < d.n → w.cell? ⟨b, i * 3 + 1, none⟩ = some (.bool (d.to i))
  t2 : ∀ i, i < d.n → w.cell? ⟨b, i * 3 + 2, none⟩ = some (vv i)
  bz : ∀ j, w.frozen? ⟨b, j, none⟩ = false
  len : ∀ i, i < d.n → (d.du i).length = 128
  tx : ∀ i, i < d.n → (tv i = .slice none 0 0 ∧ d.du i = zsec) ∨ (d.to i = false ∧ OwB w 5 F (tv i) (d.du i))
  vx : ∀ i, i < d.n → Own2 w 28 5 F (vv i) (vs i)
  va : ∀ i, i < d.n → (vs i).map Prod.snd = d.ca i
  clen : ∀ i, i < d.n → ∀ s ∈ d.ca i, s.length = 128
  sep : ∀ i j, i < d.n → j < d.n → i ≠ j → ∀ m, (vv i).ownBlock = some m → (vv j).ownBlock ≠ some m
  sepd : ∀ i, i < d.n → ∀ m, (vv i).ownBlock = some m → m ≠ g ∧ m ≠ b
  sept : ∀ i, i < d.n → ∀ m, (tv i).ownBlock = some m → m ≠ g ∧ m ≠ b
  seps : ∀ i, i < d.n → ∀ p (h : p < (vs i).length), ∀ m, (vs i)[p].1.ownBlock = some m → m ≠ g ∧ m ≠ b
section
variable {w w' : World} {F : Nat → Prop} {g b : Nat} {tv vv : Nat → Value} {vs : Nat → List (Value × List UInt8)} {d : Dk}
theorem RefM.keep (h : RefM w F g b tv vv vs d) {S : Nat → Prop} (kp : Kp S w w') (hs : ∀ i, F i → ¬ S i) : RefM w' F g b tv vv vs d := by
  obtain ⟨f1, f2⟩ := h.fit
  obtain ⟨l1, l2⟩ := h.lt
  have hz := kp.size
  refine ⟨h.n1, h.n2, h.fit, h.ne, ⟨by omega, by omega⟩, ?_, ?_, ?_, ?_, h.fb, ?_, ?_, ?_, ?_, h.len, ?_, ?_, h.va, h.clen, h.sep, h.sepd, h.sept, h.seps⟩
  · rw [kp.cell l1 (hs _ f1)]; exact h.c0
  · rw [kp.cell l1 (hs _ f1)]; exact h.c1
  · rw [kp.cell l1 (hs _ f1)]; exact h.c2
  · intro j; rw [kp.frozen l1 (hs _ f1)]; exact h.fz j
  · intro i hi; rw [kp.cell l2 (hs _ f2)]; exact h.t0 i hi
  · intro i hi; rw [kp.cell l2 (hs _ f2)]; exact h.t1 i hi
  · intro i hi; rw [kp.cell l2 (hs _ f2)]; exact h.t2 i hi
  · intro j; rw [kp.frozen l2 (hs _ f2)]; exact h.bz j
  · intro i hi
    rcases h.tx i hi with hh | hh
    · exact .inl hh
    · exact .inr ⟨hh.1, hh.2.keep kp hs⟩
  · intro i hi; exact (h.vx i hi).keep kp hs
theorem RefM.keepN (h : RefM w F g b tv vv vs d) (kp : KpN w w') : RefM w' F g b tv vv vs d := h.keep kp (fun _ _ x => x)
theorem RefM.wide {G : Nat → Prop} (h : RefM w F g b tv vv vs d) (hg : ∀ i, i < w.heap.size → F i → G i) : RefM w G g b tv vv vs d :=
  { h with
    fit := ⟨hg _ h.lt.1 h.fit.1, hg _ h.lt.2 h.fit.2⟩
    tx := fun i hi => (h.tx i hi).imp id (fun x => ⟨x.1, x.2.wide hg⟩)
    vx := fun i hi => (h.vx i hi).wide hg }
/-- what lies behind the sectors does not count -/
theorem RefM.cong {d' : Dk} (h : RefM w F g b tv vv vs d) (h1 : d'.n = d.n) (h2 : ∀ i, i < d.n → d'.du i = d.du i ∧ d'.to i = d.to i ∧ d'.ca i = d.ca i) (h3 : d'.off = d.off ∧ d'.fuse = d.fuse) : RefM w F g b tv vv vs d' := by
  refine ⟨by rw [h1]; exact h.n1, by rw [h1]; exact h.n2, h.fit, h.ne, h.lt, by rw [h1]; exact h.c0, by rw [h3.1]; exact h.c1, by rw [h3.2]; exact h.c2, h.fz, by rw [h3.2]; exact h.fb, ?_, ?_, ?_, h.bz, ?_, ?_, ?_, ?_, ?_, ?_, ?_, ?_, ?_⟩
  · intro i hi; exact h.t0 i (by omega)
  · intro i hi; rw [(h2 i (by omega)).2.1]; exact h.t1 i (by omega)
  · intro i hi; exact h.t2 i (by omega)
  · intro i hi; rw [(h2 i (by omega)).1]; exact h.len i (by omega)
  · intro i hi; rw [(h2 i (by omega)).1, (h2 i (by omega)).2.1]; exact h.tx i (by omega)
  · intro i hi; exact h.vx i (by omega)
  · intro i hi; rw [(h2 i (by omega)).2.2]; exact h.va i (by omega)
  · intro i hi; rw [(h2 i (by omega)).2.2]; exact h.clen i (by omega)
  · intro i j hi hj; exact h.sep i j (by omega) (by omega)
  · intro i hi; exact h.sepd i (by omega)
  · intro i hi; exact h.sept i (by omega)
  · intro i hi; exact h.seps i (by omega)
theorem RefM.setOff (h : RefM w F g b tv vv vs d) (t : Bool) : RefM (w.setCell ⟨g, 1, none⟩ (.bool t)) F g b tv vv vs { d with off := t } := by
  have kp := kp1_set (w := w) (F := fun i => i = g) rfl 1 (.bool t)
  obtain ⟨l1, l2⟩ := h.lt
  have hne := h.ne
  refine ⟨h.n1, h.n2, h.fit, h.ne, by simpa using h.lt, ?_, World.cell?_setCell_same _ _ _ h.c1, ?_, ?_, h.fb, ?_, ?_, ?_, ?_, h.len, ?_, ?_, h.va, h.clen, h.sep, h.sepd, h.sept, h.seps⟩
  · rw [World.cell?_setCell_other _ _ _ _ (fun e => by cases e)]; exact h.c0
  · rw [World.cell?_setCell_other _ _ _ _ (fun e => by cases e)]; exact h.c2
  · intro j; simpa using h.fz j
  · intro i hi; rw [kp.cell l2 (fun e => hne e.symm)]; exact h.t0 i hi
  · intro i hi; rw [kp.cell l2 (fun e => hne e.symm)]; exact h.t1 i hi
  · intro i hi; rw [kp.cell l2 (fun e => hne e.symm)]; exact h.t2 i hi
  · intro j; rw [kp.frozen l2 (fun e => hne e.symm)]; exact h.bz j
  · intro i hi
    rcases h.tx i hi with hh | hh
    · exact .inl hh
    · exact .inr ⟨hh.1, hh.2.keepB kp (fun m hm e => (h.sept i hi m hm).1 e)⟩
  · intro i hi; exact (h.vx i hi).keepB kp (fun m hm e => (h.sepd i hi m hm).1 e) (fun p hp m hm e => (h.seps i hi p hp m hm).1 e)
theorem RefM.setFuse (h : RefM w F g b tv vv vs d) (z : Int) (hz : -1 ≤ z ∧ z ≤ 9223372036854775807) : RefM (w.setCell ⟨g, 2, none⟩ (.int .i64 z)) F g b tv vv vs { d with fuse := z } := by
  have kp := kp1_set (w := w) (F := fun i => i = g) rfl 2 (.int .i64 z)
  obtain ⟨l1, l2⟩ := h.lt
  have hne := h.ne
  refine ⟨h.n1, h.n2, h.fit, h.ne, by simpa using h.lt, ?_, ?_, World.cell?_setCell_same _ _ _ h.c2, ?_, hz, ?_, ?_, ?_, ?_, h.len, ?_, ?_, h.va, h.clen, h.sep, h.sepd, h.sept, h.seps⟩
  · rw [World.cell?_setCell_other _ _ _ _ (fun e => by cases e)]; exact h.c0
  · rw [World.cell?_setCell_other _ _ _ _ (fun e => by cases e)]; exact h.c1
  · intro j; simpa using h.fz j
  · intro i hi; rw [kp.cell l2 (fun e => hne e.symm)]; exact h.t0 i hi
  · intro i hi; rw [kp.cell l2 (fun e => hne e.symm)]; exact h.t1 i hi
  · intro i hi; rw [kp.cell l2 (fun e => hne e.symm)]; exact h.t2 i hi
  · intro j; rw [kp.frozen l2 (fun e => hne e.symm)]; exact h.bz j
  · intro i hi
    rcases h.tx i hi with hh | hh
    · exact .inl hh
    · exact .inr ⟨hh.1, hh.2.keepB kp (fun m hm e => (h.sept i hi m hm).1 e)⟩
  · intro i hi; exact (h.vx i hi).keepB kp (fun m hm e => (h.sepd i hi m hm).1 e) (fun p hp m hm e => (h.seps i hi p hp m hm).1 e)
/-- one sector is another -/
theorem RefM.sec (h : RefM w F g b tv vv vs d) {i : Nat} (hi : i < d.n) {S G : Nat → Prop} (k : Kp S w w') (hS : ∀ m, S m → m = b ∨ (vv i).ownBlock = some m) (hG : ∀ m, F m → G m)
    (cb : ∀ j, j ≠ i * 3 → j ≠ i * 3 + 1 → j ≠ i * 3 + 2 → w'.cell? ⟨b, j, none⟩ = w.cell? ⟨b, j, none⟩) (zb : ∀ j, w'.frozen? ⟨b, j, none⟩ = false) {T V : Value} {t : Bool} {ls : List (Value × List UInt8)} {x : List UInt8} {c : List (List UInt8)}
    (e0 : w'.cell? ⟨b, i * 3, none⟩ = some T) (e1 : w'.cell? ⟨b, i * 3 + 1, none⟩ = some (.bool t)) (e2 : w'.cell? ⟨b, i * 3 + 2, none⟩ = some V)
    (hx : x.length = 128) (ht : (T = .slice none 0 0 ∧ x = zsec) ∨ (t = false ∧ OwB w' 5 G T x)) (hv : Own2 w' 28 5 G V ls) (hc : ls.map Prod.snd = c) (hcl : ∀ s ∈ c, s.length = 128)
    (sV : ∀ m, V.ownBlock = some m → (vv i).ownBlock = some m ∨ w.heap.size ≤ m) (sT : ∀ m, T.ownBlock = some m → m ≠ g ∧ m ≠ b) (sL : ∀ p (h : p < ls.length), ∀ m, ls[p].1.ownBlock = some m → m ≠ g ∧ m ≠ b) :
    RefM w' G g b (upd tv i T) (upd vv i V) (upd vs i ls) ⟨d.n, upd d.du i x, upd d.to i t, upd d.ca i c, d.off, d.fuse⟩ := by
  obtain ⟨l1, l2⟩ := h.lt
  have hz := k.size
  have hne := h.ne
  have hgS : ¬ S g := fun e => by
    rcases hS g e with e | e
    · exact hne e
    · exact (h.sepd i hi g e).1 rfl
  refine ⟨h.n1, h.n2, ⟨hG _ h.fit.1, hG _ h.fit.2⟩, h.ne, ⟨by omega, by omega⟩, ?_, ?_, ?_, ?_, h.fb, ?_, ?_, ?_, zb, ?_, ?_, ?_, ?_, ?_, ?_, ?_, ?_, ?_⟩
  · rw [k.cell l1 hgS]; exact h.c0
  · rw [k.cell l1 hgS]; exact h.c1
  · rw [k.cell l1 hgS]; exact h.c2
  · intro j; rw [k.frozen l1 hgS]; exact h.fz j
  · intro j hj
    by_cases hji : j = i
    · subst hji; rw [upd_same]; exact e0
    · rw [upd_ne _ _ hji, cb _ (by omega) (by omega) (by omega)]; exact h.t0 j hj
  · intro j hj
    by_cases hji : j = i
    · subst hji; simp only [upd_same]; exact e1
    · simp only [upd_ne _ _ hji]; rw [cb _ (by omega) (by omega) (by omega)]; exact h.t1 j hj
  · intro j hj
    by_cases hji : j = i
    · subst hji; rw [upd_same]; exact e2
    · rw [upd_ne _ _ hji, cb _ (by omega) (by omega) (by omega)]; exact h.t2 j hj
  · intro j hj
    by_cases hji : j = i
    · subst hji; simp only [upd_same]; exact hx
    · simp only [upd_ne _ _ hji]; exact h.len j hj
  · intro j hj
    by_cases hji : j = i
    · subst hji; simp only [upd_same]; exact ht
    · simp only [upd_ne _ _ hji]
      rcases h.tx j hj with hh | hh
      · exact .inl hh
      · refine .inr ⟨hh.1, (hh.2.keepB k (fun m hm e => ?_)).wide (fun m _ hm => hG m hm)⟩
        rcases hS m e with e | e
        · exact (h.sept j hj m hm).2 e
        · exact OwC.neT hh.2.c (h.vx i hi).row (by decide) m hm e
  · intro j hj
    by_cases hji : j = i
    · subst hji; simp only [upd_same]; exact hv
    · simp only [upd_ne _ _ hji]
      refine ((h.vx j hj).keepB k (fun m hm e => ?_) (fun p hp m hm e => ?_)).wide (fun m _ hm => hG m hm)
      · rcases hS m e with e | e
        · exact (h.sepd j hj m hm).2 e
        · exact h.sep j i hj hi hji m hm e
      · rcases hS m e with e | e
        · exact (h.seps j hj p hp m hm).2 e
        · exact OwC.neT ((h.vx j hj).each p hp).c (h.vx i hi).row (by decide) m hm e
  · intro j hj
    by_cases hji : j = i
    · subst hji; simp only [upd_same]; exact hc
    · simp only [upd_ne _ _ hji]; exact h.va j hj
  · intro j hj
    by_cases hji : j = i
    · subst hji; simp only [upd_same]; exact hcl
    · simp only [upd_ne _ _ hji]; exact h.clen j hj
  · have key : ∀ j, j < d.n → j ≠ i → ∀ m, V.ownBlock = some m → (vv j).ownBlock ≠ some m := fun j hj hji m hm hm2 => by
      rcases sV m hm with e | e
      · exact h.sep j i hj hi hji m hm2 e
      · have := (h.vx j hj).row.lt m hm2
        omega
    intro p q hp hq hpq m hm hm2
    by_cases hpi : p = i
    · subst hpi
      rw [upd_same] at hm
      rw [upd_ne _ _ (fun e => hpq e.symm)] at hm2
      exact key q hq (fun e => hpq e.symm) m hm hm2
    · rw [upd_ne _ _ hpi] at hm
      by_cases hqi : q = i
      · subst hqi
        rw [upd_same] at hm2
        exact key p hp hpi m hm2 hm
      · rw [upd_ne _ _ hqi] at hm2
        exact h.sep p q hp hq hpq m hm hm2
  · intro j hj m hm
    by_cases hji : j = i
    · subst hji
      rw [upd_same] at hm
      rcases sV m hm with e | e
      · exact h.sepd j hj m e
      · exact ⟨by omega, by omega⟩
    · rw [upd_ne _ _ hji] at hm
      exact h.sepd j hj m hm
  · intro j hj m hm
    by_cases hji : j = i
    · subst hji
      rw [upd_same] at hm
      exact sT m hm
    · rw [upd_ne _ _ hji] at hm
      exact h.sept j hj m hm
  · intro j hj p hp m hm
    by_cases hji : j = i
    · subst hji
      simp only [upd_same] at hp hm
      exact sL p hp m hm
    · simp only [upd_ne _ _ hji] at hp hm
      exact h.seps j hj p hp m hm
theorem RefM.there (h : RefM w F g b tv vv vs d) {i : Nat} (hi : i < d.n) : w.there b (i * 3) 3 := fun j hj => by
  have a0 := h.t0 i hi
  have a1 := h.t1 i hi
  have a2 := h.t2 i hi
  rcases j with _ | _ | _ | j
  · rw [Nat.add_zero, a0]; exact ⟨rfl, h.bz _⟩
  · rw [a1]; exact ⟨rfl, h.bz _⟩
  · rw [a2]; exact ⟨rfl, h.bz _⟩
  · omega
/-- a whole sector is stored -/
theorem RefM.put3 (h : RefM w F g b tv vv vs d) {i : Nat} (hi : i < d.n) (T : Value) (t : Bool) {x : List UInt8}
    (hx : x.length = 128) (ht : (T = .slice none 0 0 ∧ x = zsec) ∨ (t = false ∧ OwB w 5 F T x)) (sT : ∀ m, T.ownBlock = some m → m ≠ g ∧ m ≠ b) :
    RefM (w.setCells b (i * 3) [T, .bool t, .slice none 0 0]) F g b (upd tv i T) (upd vv i (.slice none 0 0)) (upd vs i []) ⟨d.n, upd d.du i x, upd d.to i t, upd d.ca i [], d.off, d.fuse⟩ := by
  have hth := h.there hi
  have kk := Kp.setCells b [T, .bool t, .slice none 0 0] (i * 3) w
  have hr := World.rangeAt_setCells_same w b (i * 3) [T, .bool t, .slice none 0 0] hth
  refine h.sec hi kk (fun m hm => .inl hm) (fun _ x => x) (fun j h0 h1 h2 => ?_) (fun j => by rw [World.frozen?_setCells]; exact h.bz j) (hr 0 _ rfl) (hr 1 _ rfl) (hr 2 _ rfl) hx ?_ (Own2.nil _ _ _ _) rfl (fun s hs => by cases hs) (fun m hm => by cases hm) sT (fun p hp => by cases hp)
  · show (((w.setCell ⟨b, i * 3, none⟩ T).setCell ⟨b, i * 3 + 1, none⟩ (.bool t)).setCell ⟨b, i * 3 + 1 + 1, none⟩ (.slice none 0 0)).cell? _ = _
    rw [World.cell?_setCell_other _ _ _ _ (off_ne (by omega)), World.cell?_setCell_other _ _ _ _ (off_ne (by omega)), World.cell?_setCell_other _ _ _ _ (off_ne (by omega))]
  · rcases ht with ht | ht
    · exact .inl ht
    · exact .inr ⟨ht.1, ht.2.keepB kk (fun m hm e => (sT m hm).2 e)⟩
end
/-- .. what of it a caller must know -/
def RefX (w : World) (F : Nat → Prop) (g : Nat) (d : Dk) : Prop := ∃ b tv vv vs, RefM w F g b tv vv vs d
theorem RefX.keep {w w' : World} {F S : Nat → Prop} {g : Nat} {d : Dk} (h : RefX w F g d) (kp : Kp S w w') (hs : ∀ i, F i → ¬ S i) : RefX w' F g d := by
  obtain ⟨b, tv, vv, vs, h⟩ := h
  exact ⟨b, tv, vv, vs, h.keep kp hs⟩
theorem RefX.keepN {w w' : World} {F : Nat → Prop} {g : Nat} {d : Dk} (h : RefX w F g d) (kp : KpN w w') : RefX w' F g d := h.keep kp (fun _ _ x => x)
theorem RefX.wide {w : World} {F G : Nat → Prop} {g : Nat} {d : Dk} (h : RefX w F g d) (hg : ∀ i, i < w.heap.size → F i → G i) : RefX w G g d := by
  obtain ⟨b, tv, vv, vs, h⟩ := h
  exact ⟨b, tv, vv, vs, h.wide hg⟩
theorem RefX.cong {w : World} {F : Nat → Prop} {g : Nat} {d d' : Dk} (h : RefX w F g d) (h1 : d'.n = d.n) (h2 : ∀ i, i < d.n → d'.du i = d.du i ∧ d'.to i = d.to i ∧ d'.ca i = d.ca i) (h3 : d'.off = d.off ∧ d'.fuse = d.fuse) : RefX w F g d' := by
  obtain ⟨b, tv, vv, vs, h⟩ := h
  exact ⟨b, tv, vv, vs, h.cong h1 h2 h3⟩
theorem RefX.fit {w : World} {F : Nat → Prop} {g : Nat} {d : Dk} (h : RefX w F g d) : F g ∧ g < w.heap.size := by obtain ⟨_, _, _, _, h⟩ := h; exact ⟨h.fit.1, h.lt.1⟩
end Go.Proofs.Ythkbgbbejgpeaaa
