/- Words for bytes in memory and for what a call may change: used by all texts of this family. Proved by the author of the claim; no program stands in it. -/
import Derived.WalkKit
import Derived.WalkSpells
import Derived.Maps.AppendAt
import Derived.Deep.AppendLies
import Derived.Deep.Draws
import Derived.Laws.BytesArg
import Derived.Laws.BitsAllLaws
import Derived.Lib.Hide
import Derived.OneCell
import Derived.Lib.AppendStr
import Derived.Lib.AppendZeros
namespace Go.Proofs.Yteokkpmndfekoaa
open Go Go.RowKit
set_option maxRecDepth 100000

/-! ### 1. what a call may change -/
/-- Of the blocks that were there, those outside S are as they were. -/
structure Kp (S : Nat → Prop) (w w' : World) : Prop where
  os : w'.os = w.os
  tape : w'.tape = w.tape
  output : w'.output = w.output
  size : w.heap.size ≤ w'.heap.size
  block : ∀ k, k < w.heap.size → ¬ S k → w'.heap[k]? = w.heap[k]?
/-- nothing that was there -/
abbrev KpN (w w' : World) : Prop := Kp (fun _ => False) w w'
/-- one block alone -/
abbrev Kp1 (g : Nat) (w w' : World) : Prop := Kp (fun k => k = g) w w'

theorem Kp.refl (S : Nat → Prop) (w : World) : Kp S w w := ⟨rfl, rfl, rfl, Nat.le_refl _, fun _ _ _ => rfl⟩
theorem Kp.trans {S T U : Nat → Prop} {a b c : World} (h : Kp S a b) (k : Kp T b c) (hs : ∀ i, i < a.heap.size → S i → U i) (ht : ∀ i, i < a.heap.size → T i → U i) : Kp U a c :=
  ⟨k.os.trans h.os, k.tape.trans h.tape, k.output.trans h.output, Nat.le_trans h.size k.size, fun i hi hu =>
    (k.block i (Nat.lt_of_lt_of_le hi h.size) (fun x => hu (ht i hi x))).trans (h.block i hi (fun x => hu (hs i hi x)))⟩
theorem Kp.mono {S U : Nat → Prop} {a b : World} (h : Kp S a b) (hs : ∀ i, i < a.heap.size → S i → U i) : Kp U a b := h.trans (Kp.refl S b) hs hs
theorem Kp.thenN {S : Nat → Prop} {a b c : World} (h : Kp S a b) (k : KpN b c) : Kp S a c := h.trans k (fun _ _ x => x) (fun _ _ x => x.elim)
theorem Kp.after {S : Nat → Prop} {a b c : World} (h : KpN a b) (k : Kp S b c) : Kp S a c := h.trans k (fun _ _ x => x.elim) (fun _ _ x => x)
/-- what is changed is new -/
theorem Kp.fresh {S : Nat → Prop} {a b c : World} (h : KpN a b) (k : Kp S b c) (hs : ∀ i, S i → a.heap.size ≤ i) : KpN a c :=
  h.trans k (fun _ _ x => x) (fun i hi x => by have := hs i x; omega)
theorem Kp.fresh1 {g : Nat} {a b c : World} (h : KpN a b) (k : Kp1 g b c) (hg : a.heap.size ≤ g) : KpN a c := h.fresh k (fun i e => by omega)
theorem Kp.drew {S : Nat → Prop} {a b : World} (h : Kp S a b) : Kp S a b.drew := ⟨h.os, h.tape, h.output, h.size, h.block⟩
theorem Kp.drewN {S : Nat → Prop} {a b : World} (h : Kp S a b) (n : Nat) : Kp S a (b.drewN n) := ⟨h.os, h.tape, h.output, h.size, h.block⟩
theorem Kp.alloc {S : Nat → Prop} {a b : World} (h : Kp S a b) (o : Obj) : Kp S a (b.alloc o) :=
  h.thenN ⟨rfl, rfl, rfl, by simp, fun k hk _ => Below.heap_alloc b o k hk⟩
theorem Kp.setCell {S : Nat → Prop} {a b : World} (h : Kp S a b) {p : Addr} (hp : S p.block ∨ a.heap.size ≤ p.block) (u : Value) : Kp S a (b.setCell p u) :=
  h.trans (T := fun k => k = p.block) ⟨rfl, rfl, rfl, by simp [World.setCell], fun k _ hk => Below.heap_setCell b p u k hk⟩ (fun _ _ x => x) (fun i hi e => by
    subst e
    rcases hp with hp | hp
    · exact hp
    · omega)
theorem Kp.of_grown {w w' : World} {row : Option Nat} (h : w.grownBy w' row) : Kp (fun k => some k = row) w w' := ⟨h.os, h.tape, h.output, h.size, fun k hk hn => h.block k hk hn⟩
theorem Kp.own {F : Nat → Prop} {w w' : World} {v : Value} (h : Kp (fun k => v.ownBlock = some k) w w') (hf : ∀ k, v.ownBlock = some k → F k) : Kp F w w' := h.mono (fun i _ e => hf i e)
theorem Kp.below {w w' : World} (h : KpN w w') : Below w.heap.size w w' := ⟨h.os, h.tape, h.output, h.size, fun k hk => h.block k hk (fun x => x)⟩
theorem KpN.of_below {w w' : World} (h : Below w.heap.size w w') : KpN w w' := ⟨h.os, h.tape, h.output, h.size, fun k hk _ => h.block k hk⟩
theorem Kp.toGrown {g : Nat} {w w' : World} (h : Kp1 g w w') : w.grownBy w' (some g) := ⟨h.os, h.tape, h.output, h.size, fun k hk hn => h.block k hk (fun e => hn (by rw [e]))⟩
theorem Kp.cell {S : Nat → Prop} {w w' : World} (h : Kp S w w') {p : Addr} (hp : p.block < w.heap.size) (hs : ¬ S p.block) : w'.cell? p = w.cell? p := World.cell?_of_block (h.block p.block hp hs)
theorem Kp.frozen {S : Nat → Prop} {w w' : World} (h : Kp S w w') {p : Addr} (hp : p.block < w.heap.size) (hs : ¬ S p.block) : w'.frozen? p = w.frozen? p := World.frozen?_of_block (h.block p.block hp hs)

/-! ### 2. bytes -/
def bv (b : UInt8) : Value := .int .u8 (b.toNat : Int)
def bvs (xs : List UInt8) : List Value := xs.map bv
def bs (xs : List UInt8) : ByteArray := ⟨xs.toArray⟩
theorem bvs_length (xs : List UInt8) : (bvs xs).length = xs.length := by simp [bvs]
theorem bvs_append (xs ys : List UInt8) : bvs (xs ++ ys) = bvs xs ++ bvs ys := by simp [bvs]
theorem bvs_one (xs : List UInt8) : ∀ u ∈ bvs xs, u.oneCell' = true := by
  intro u hu
  simp only [bvs, List.mem_map] at hu
  obtain ⟨b, _, rfl⟩ := hu
  rfl
theorem bvs_get (xs : List UInt8) (j : Nat) : (bvs xs)[j]? = (xs[j]?).map bv := by simp [bvs]
theorem bs_size (xs : List UInt8) : (bs xs).size = xs.length := by simp [bs, ByteArray.size]
theorem bs_data (xs : List UInt8) : (bs xs).data.toList = xs := by simp [bs]
theorem bs_inj {xs ys : List UInt8} (h : bs xs = bs ys) : xs = ys := by
  have := congrArg (fun b : ByteArray => b.data.toList) h
  simpa [bs] using this
theorem bs_append (xs ys : List UInt8) : bs xs ++ bs ys = bs (xs ++ ys) := by
  apply ByteArray.ext
  simp [bs, ByteArray.data_append]
theorem bs_toList (xs : List UInt8) : (bs xs).toList = xs := by rw [ByteArray.toList_eq]; simp [bs]
theorem toList_lit (xs : Array UInt8) : (ByteArray.mk xs).toList = xs.toList := by rw [ByteArray.toList_eq]
theorem toList_app (s t : ByteArray) : (s ++ t).toList = s.toList ++ t.toList := by simp [ByteArray.toList_eq]

/-- a counter that goes up to n -/
theorem meas_up {n k : Nat} (h : k < n) : n - (intOf (.int .i64 ((k : Int) + 1))).toNat < n - (intOf (.int .i64 (k : Int))).toNat := by
  show n - ((k : Int) + 1).toNat < n - (k : Int).toNat
  omega

/-! ### 3. a slice that reads -/
/-- The slice value v has n elements of 'size' cells each, which read as cs. -/
def RdC (w : World) (size : Nat) (v : Value) (n : Nat) (cs : List Value) : Prop :=
  cs.length = n * size ∧ ∃ A c, v = .slice A n c ∧ n ≤ c ∧ ∀ j u, cs[j]? = some u → ∃ ad, A = some ad ∧ w.cell? (ad.add j) = some u
/-- .. as the bytes xs -/
def RdB (w : World) (v : Value) (xs : List UInt8) : Prop := RdC w 1 v xs.length (bvs xs)
theorem add_plain' (g j : Nat) : (⟨g, 0, none⟩ : Addr).add j = ⟨g, j, none⟩ := by unfold Addr.add; split <;> simp_all
theorem add_block (a : Addr) (j : Nat) : (a.add j).block = a.block := by unfold Addr.add; split <;> rfl
theorem RdC.keep {w w' : World} {size n : Nat} {v : Value} {cs : List Value} (h : RdC w size v n cs) {S : Nat → Prop} (k : Kp S w w') (hs : ∀ i, v.ownBlock = some i → ¬ S i) : RdC w' size v n cs := by
  obtain ⟨hl, A, c, rfl, hc, hr⟩ := h
  refine ⟨hl, A, c, rfl, hc, fun j u hu => ?_⟩
  obtain ⟨ad, rfl, hcell⟩ := hr j u hu
  refine ⟨ad, rfl, ?_⟩
  rw [k.cell (World.block_lt_of_cell? w _ hcell) (by rw [add_block]; exact hs _ rfl)]
  exact hcell
theorem RdC.keepN {w w' : World} {size n : Nat} {v : Value} {cs : List Value} (h : RdC w size v n cs) (k : KpN w w') : RdC w' size v n cs := h.keep k (fun _ _ x => x)
theorem RdB.keep {w w' : World} {v : Value} {xs : List UInt8} (h : RdB w v xs) {S : Nat → Prop} (k : Kp S w w') (hs : ∀ i, v.ownBlock = some i → ¬ S i) : RdB w' v xs := RdC.keep h k hs
theorem RdB.keepN {w w' : World} {v : Value} {xs : List UInt8} (h : RdB w v xs) (k : KpN w w') : RdB w' v xs := RdC.keepN h k
theorem RdB.nil (w : World) : RdB w (.slice none 0 0) [] := ⟨rfl, none, 0, rfl, Nat.le_refl _, fun j u h => by simp [bvs] at h⟩
/-- the value's shape -/
theorem RdB.form {w : World} {v : Value} {xs : List UInt8} (h : RdB w v xs) : ∃ A c, v = .slice A xs.length c ∧ xs.length ≤ c := by
  obtain ⟨_, A, c, rfl, hc, _⟩ := h
  exact ⟨A, c, rfl, hc⟩
theorem RdB.at_ {w : World} {A : Option Addr} {n c : Nat} {xs : List UInt8} (h : RdB w (.slice A n c) xs) (j : Nat) (hj : j < xs.length) : ∃ ad, A = some ad ∧ w.cell? (ad.add j) = some (bv xs[j]) := by
  obtain ⟨_, A', c', hv, _, hr⟩ := h
  injection hv with h1 h2 h3
  subst h1
  exact hr j _ (by rw [bvs_get, List.getElem?_eq_getElem hj]; rfl)
theorem RdB.len {w : World} {A : Option Addr} {n c : Nat} {xs : List UInt8} (h : RdB w (.slice A n c) xs) : n = xs.length := by
  obtain ⟨_, A', c', hv, _⟩ := h
  injection hv
theorem RdC.take {w : World} {size n : Nat} {A : Option Addr} {c : Nat} {cs : List Value} (h : RdC w size (.slice A n c) n cs) (k : Nat) (hk : k ≤ n) : RdC w size (.slice A k c) k (cs.take (k * size)) := by
  obtain ⟨hl, A', c', hv, hc, hr⟩ := h
  injection hv with h1 h2 h3
  subst h1
  subst h3
  refine ⟨by rw [List.length_take, hl]; exact Nat.min_eq_left (Nat.mul_le_mul_right _ hk), A, c, rfl, by omega, fun j u hu => ?_⟩
  rw [List.getElem?_take] at hu
  split at hu
  · exact hr j u hu
  · cases hu
theorem RdB.take {w : World} {A : Option Addr} {n c : Nat} {xs : List UInt8} (h : RdB w (.slice A n c) xs) (k : Nat) (hk : k ≤ n) : RdB w (.slice A k c) (xs.take k) := by
  have hn := h.len
  subst hn
  have := RdC.take h k hk
  have hl : (xs.take k).length = k := by simp; omega
  unfold RdB
  rw [hl]
  simpa [bvs] using this

/-! ### 4. a row of the call's own -/
/-- numbers from lo to hi - 1 -/
abbrev Iv (lo hi : Nat) : Nat → Prop := fun k => lo ≤ k ∧ k < hi
/-- v is nil or a slice from the head of a block of its own, which is one of F. -/
structure OwC (w : World) (e size : Nat) (F : Nat → Prop) (v : Value) (n : Nat) (cs : List Value) : Prop where
  own : w.ownsRow 0 e size v n cs
  fit : ∀ k, v.ownBlock = some k → F k
/-- .. of bytes (e: the number of the type uint8) -/
def OwB (w : World) (e : Nat) (F : Nat → Prop) (v : Value) (xs : List UInt8) : Prop := OwC w e 1 F v xs.length (bvs xs)
theorem OwC.lt {w : World} {e size n : Nat} {F : Nat → Prop} {v : Value} {cs : List Value} (h : OwC w e size F v n cs) : ∀ k, v.ownBlock = some k → k < w.heap.size := fun k hk => (h.own.lt k hk).2
theorem OwC.keep {w w' : World} {e size n : Nat} {F : Nat → Prop} {v : Value} {cs : List Value} (h : OwC w e size F v n cs) {S : Nat → Prop} (k : Kp S w w') (hs : ∀ i, F i → ¬ S i) : OwC w' e size F v n cs := by
  refine ⟨⟨h.own.1, ?_⟩, h.fit⟩
  rcases h.own.2 with hn | ⟨g, cap, cur, rfl, hb, hgg, rest⟩
  · exact .inl hn
  · refine .inr ⟨g, cap, cur, rfl, hb, ?_, rest⟩
    rw [k.block g (Array.getElem?_eq_some_iff.1 hgg).1 (hs g (h.fit g rfl))]
    exact hgg
theorem OwC.keepN {w w' : World} {e size n : Nat} {F : Nat → Prop} {v : Value} {cs : List Value} (h : OwC w e size F v n cs) (k : KpN w w') : OwC w' e size F v n cs := h.keep k (fun _ _ x => x)
theorem OwC.wide {w : World} {e size n : Nat} {F G : Nat → Prop} {v : Value} {cs : List Value} (h : OwC w e size F v n cs) (hg : ∀ k, k < w.heap.size → F k → G k) : OwC w e size G v n cs := ⟨h.own, fun k hk => hg k (h.lt k hk) (h.fit k hk)⟩
theorem OwC.nil (w : World) (e size : Nat) (F : Nat → Prop) : OwC w e size F (.slice none 0 0) 0 [] := ⟨World.ownsRow_nil w 0 e size, fun k hk => by simp [Value.ownBlock] at hk⟩
theorem OwC.reads {w : World} {e size n : Nat} {F : Nat → Prop} {v : Value} {cs : List Value} (h : OwC w e size F v n cs) : RdC w size v n cs := by
  refine ⟨h.own.1, ?_⟩
  rcases h.own.2 with ⟨rfl, rfl⟩ | ⟨g, cap, cur, rfl, _, hgg, hn, _⟩
  · have hx : cs = [] := List.eq_nil_of_length_eq_zero (by simpa using h.own.1)
    exact ⟨none, 0, rfl, Nat.le_refl _, fun j u hu => by simp [hx] at hu⟩
  · exact ⟨_, cap, rfl, hn, fun j u hu => ⟨_, rfl, h.own.cells (g := g) rfl j u hu⟩⟩
theorem OwC.drew {w : World} {e size n : Nat} {F : Nat → Prop} {v : Value} {cs : List Value} (h : OwC w e size F v n cs) : OwC w.drew e size F v n cs := h.keepN (Kp.refl _ w).drew
/-- its shape -/
theorem OwC.form {w : World} {e size n : Nat} {F : Nat → Prop} {v : Value} {cs : List Value} (h : OwC w e size F v n cs) (hn : 0 < n) :
    ∃ g cap, v = .slice (some ⟨g, 0, none⟩) n cap ∧ F g ∧ n ≤ cap := by
  rcases h.own.2 with ⟨rfl, rfl⟩ | ⟨g, cap, cur, rfl, _, hgg, hn, _⟩
  · omega
  · exact ⟨g, cap, rfl, h.fit g rfl, hn⟩

theorem OwC.stored {w : World} {e g n cap : Nat} {F : Nat → Prop} {cs : List Value} (h : OwC w e 1 F (.slice (some ⟨g, 0, none⟩) n cap) n cs) (j : Nat) (u : Value) :
    OwC (w.setCell ⟨g, j, none⟩ u) e 1 F (.slice (some ⟨g, 0, none⟩) n cap) n (cs.set j u) := ⟨(h.own.stored j u).1, h.fit⟩
theorem OwC.cellAt {w : World} {e g n cap : Nat} {F : Nat → Prop} {cs : List Value} (h : OwC w e 1 F (.slice (some ⟨g, 0, none⟩) n cap) n cs) (j : Nat) (hj : j < n) : w.cell? ⟨g, j, none⟩ = cs[j]? := h.own.cellAt j (by omega)
theorem OwC.frozenAt {w : World} {e g n cap : Nat} {F : Nat → Prop} {cs : List Value} (h : OwC w e 1 F (.slice (some ⟨g, 0, none⟩) n cap) n cs) (j : Nat) : w.frozen? ⟨g, j, none⟩ = false := h.own.frozenAt j
theorem OwC.frozenAt' {w : World} {e n g m cap : Nat} {F : Nat → Prop} {cs : List Value} (h : OwC w e 1 F (.slice (some ⟨g, 0, none⟩) m cap) n cs) (j : Nat) : w.frozen? ⟨g, j, none⟩ = false := by
  have hh := h.own.2
  rcases hh with ⟨hv, _⟩ | ⟨g', cap', cur, hv, _, hgg, _⟩
  · cases hv
  · injection hv with h1
    injection h1 with h1
    injection h1 with h1
    subst h1
    exact frozen_of_row w _ j cur e hgg
theorem bvs_set (xs : List UInt8) (j : Nat) (b : UInt8) : (bvs xs).set j (bv b) = bvs (xs.set j b) := by simp [bvs, List.map_set]
theorem OwB.putB {w : World} {e g n cap : Nat} {F : Nat → Prop} {xs : List UInt8} (h : OwB w e F (.slice (some ⟨g, 0, none⟩) n cap) xs) (hn : n = xs.length) (j : Nat) (b : UInt8) :
    OwB (w.setCell ⟨g, j, none⟩ (bv b)) e F (.slice (some ⟨g, 0, none⟩) n cap) (xs.set j b) := by
  subst hn
  have := OwC.stored h j (bv b)
  rw [bvs_set] at this
  rw [OwB, List.length_set]
  exact this
theorem OwB.byteAt {w : World} {e g n cap : Nat} {F : Nat → Prop} {xs : List UInt8} (h : OwB w e F (.slice (some ⟨g, 0, none⟩) n cap) xs) (hn : n = xs.length) (j : Nat) (hj : j < xs.length) : w.cell? ⟨g, j, none⟩ = some (bv xs[j]) := by
  subst hn
  rw [OwC.cellAt h j hj, bvs_get, List.getElem?_eq_getElem hj]
  rfl
theorem xor_bv (b c : UInt8) : bits .xor .u8 (b.toNat : Int) (c.toNat : Int) = ((b ^^^ c).toNat : Int) := by
  rw [u8_xor_nat _ _ b.toNat_lt c.toNat_lt, UInt8.toNat_xor]
theorem getD_lt (xs : List UInt8) (j : Nat) (h : j < xs.length) : xs.getD j 0 = xs[j] := by simp [List.getD, h]

theorem byte_of (x : Int) (h0 : 0 ≤ x) (h1 : x < 256) : Value.int .u8 x = bv (UInt8.ofNat x.toNat) := by
  have : (UInt8.ofNat x.toNat).toNat = x.toNat := by rw [UInt8.toNat_ofNat']; omega
  rw [bv, this, Int.toNat_of_nonneg h0]
/-- the one-element literal that an append is handed -/
theorem RdB.one (w : World) (e : TypeId) (x : Int) (h0 : 0 ≤ x) (h1 : x < 256) : RdB (w.alloc (.cells #[.int .u8 x] e)) (.slice (some ⟨w.heap.size, 0, none⟩) 1 1) [UInt8.ofNat x.toNat] := by
  refine ⟨rfl, _, 1, rfl, Nat.le_refl _, fun j u hu => ⟨_, rfl, ?_⟩⟩
  have hj : j = 0 := by
    rcases Nat.eq_zero_or_pos j with h | h
    · exact h
    · rw [List.getElem?_eq_none (by simp [bvs]; omega)] at hu; cases hu
  subst hj
  simp only [bvs, List.map_cons, List.map_nil, List.getElem?_cons_zero, Option.some.injEq] at hu
  rw [← hu, ← byte_of x h0 h1]
  exact cell_one_new w _ e 0 _ rfl

theorem alloc_size (w : World) (o : Obj) : (w.alloc o).heap.size = w.heap.size + 1 := by simp
theorem OwC.made (w : World) (e size cap : Nat) (cur : Array Value) (hm : cap ≤ maxLen) (hs : cur.size = cap * size) : OwC (w.alloc (.cells cur e)) e size (Iv w.heap.size (w.heap.size + 1)) (.slice (some ⟨w.heap.size, 0, none⟩) 0 cap) 0 [] :=
  ⟨World.ownsRow_made w cur cap (Nat.zero_le _) hm hs, fun k hk => by simp only [Value.ownBlock, Option.some.injEq] at hk; exact ⟨by omega, by omega⟩⟩
/-- a literal of n elements -/
theorem OwC.lit (w : World) (e size n : Nat) (cs : Array Value) (hm : n ≤ maxLen) (hs : cs.size = n * size) : OwC (w.alloc (.cells cs e)) e size (Iv w.heap.size (w.heap.size + 1)) (.slice (some ⟨w.heap.size, 0, none⟩) n n) n cs.toList :=
  ⟨World.ownsRow_lit w cs n (Nat.zero_le _) hm hs, fun k hk => by simp only [Value.ownBlock, Option.some.injEq] at hk; exact ⟨by omega, by omega⟩⟩
theorem OwC.one (w : World) (e : TypeId) (x : Int) (h0 : 0 ≤ x) (h1 : x < 256) : OwB (w.alloc (.cells #[.int .u8 x] e)) e (Iv w.heap.size (w.heap.size + 1)) (.slice (some ⟨w.heap.size, 0, none⟩) 1 1) [UInt8.ofNat x.toNat] := by
  have := OwC.lit w e 1 1 #[.int .u8 x] (by simp [maxLen]) rfl
  rw [byte_of x h0 h1] at this ⊢
  exact this
/-- an empty literal -/
theorem OwC.empty (w : World) (e size : Nat) : OwC (w.alloc (.cells #[] e)) e size (Iv w.heap.size (w.heap.size + 1)) (.slice (some ⟨w.heap.size, 0, none⟩) 0 0) 0 [] :=
  ⟨World.ownsRow_made w #[] 0 (Nat.zero_le _) (Nat.zero_le _) (by simp), fun k hk => by simp only [Value.ownBlock, Option.some.injEq] at hk; exact ⟨by omega, by omega⟩⟩

section
variable {w w' : World} {e : Nat} {F : Nat → Prop} {v : Value} {xs : List UInt8}
theorem OwB.c (h : OwB w e F v xs) : OwC w e 1 F v xs.length (bvs xs) := h
theorem OwB.fit (h : OwB w e F v xs) : ∀ k, v.ownBlock = some k → F k := h.c.fit
theorem OwB.lt (h : OwB w e F v xs) : ∀ k, v.ownBlock = some k → k < w.heap.size := h.c.lt
theorem OwB.keep (h : OwB w e F v xs) {S : Nat → Prop} (k : Kp S w w') (hs : ∀ i, F i → ¬ S i) : OwB w' e F v xs := h.c.keep k hs
theorem OwB.keepN (h : OwB w e F v xs) (k : KpN w w') : OwB w' e F v xs := h.c.keepN k
theorem OwB.drew (h : OwB w e F v xs) : OwB w.drew e F v xs := h.c.drew
theorem OwB.wide {G : Nat → Prop} (h : OwB w e F v xs) (hg : ∀ k, k < w.heap.size → F k → G k) : OwB w e G v xs := h.c.wide hg
theorem OwB.readsB (h : OwB w e F v xs) : RdB w v xs := h.c.reads
theorem OwB.nil (w : World) (e : Nat) (F : Nat → Prop) : OwB w e F (.slice none 0 0) [] := OwC.nil w e 1 F
theorem OwB.form (h : OwB w e F v xs) (hn : 0 < xs.length) : ∃ g cap, v = .slice (some ⟨g, 0, none⟩) xs.length cap ∧ F g ∧ xs.length ≤ cap := h.c.form hn
theorem OwB.frozenAt {g n cap : Nat} (h : OwB w e F (.slice (some ⟨g, 0, none⟩) n cap) xs) (j : Nat) : w.frozen? ⟨g, j, none⟩ = false := h.c.frozenAt' j
end

/-- behind the draw that begins a region -/
theorem drew_got {U : Nat} {w w' : World} {u : Value} {ys : List UInt8} (o : OwB w' U (Iv w.heap.size w'.heap.size) u ys) (k : KpN w w') : ∃ w3, w'.drew = w3 ∧ OwB w3 U (Iv w.heap.size w3.heap.size) u ys ∧ KpN w w3 := ⟨_, rfl, o.drew, k.drew⟩

/-- bytes laid in a new block, marked or not -/
theorem RdB.laid (w : World) (e : TypeId) (bl : List UInt8) (cs : Array Value) (fr : Nat × Nat) (hc : cs = (bvs bl).toArray) (g c : Nat) (hg : g = w.heap.size) (hl : bl.length ≤ c) : RdB (w.alloc (.cells cs e fr)) (.slice (some ⟨g, 0, none⟩) bl.length c) bl := by
  subst hc
  subst hg
  refine ⟨by simp [bvs], _, c, rfl, hl, fun j u hu => ⟨_, rfl, ?_⟩⟩
  rw [add_plain', cell_of_row _ _ _ _ _ _ (heap_alloc_new w _)]
  simpa using hu
/-- a literal of bytes -/
theorem OwB.lit (w : World) (e : TypeId) (bl : List UInt8) (cs : Array Value) (hc : cs = (bvs bl).toArray) (hm : bl.length ≤ 1000000) : OwB (w.alloc (.cells cs e)) e (Iv w.heap.size (w.heap.size + 1)) (.slice (some ⟨w.heap.size, 0, none⟩) bl.length bl.length) bl := by
  subst hc
  have := OwC.lit w e 1 bl.length (bvs bl).toArray (by simp only [maxLen]; omega) (by simp [bvs])
  exact this

/-! ### 5. append -/
section
variable {P : Program} (w : World)
theorem run_app {t ty e : TypeId} {z : Value} {size bytes : Nat} (ht : P.underlying t = some (.slice e)) (hinfo : (P.info? e).map (fun i => (i.zero, i.size, i.bytes)) = some (some z, size, bytes)) (hzs : z.cells.size = size) (hsz : 0 < size)
    {F : Nat → Prop} {v x : Value} {n m : Nat} {cs ds : List Value} (ho : OwC w e size F v n cs) (hr : RdC w size x m ds) (h1 : ∀ u ∈ ds, u.oneCell' = true) (hb : (n + m) * bytes ≤ 140737488355328) (hm : n + m ≤ 140737488355328) :
    ∃ v' w', (Builtin.append_ #[t, t] ty #[v, x]).run P w = .ok v' w' ∧ OwC w' e size (fun k => F k ∨ Iv w.heap.size w'.heap.size k) v' (n + m) (cs ++ ds) ∧ Kp (fun k => v.ownBlock = some k) w w' ∧ (v'.ownBlock = v.ownBlock ∨ v'.ownBlock = some w.heap.size) := by
  obtain ⟨i0, hi, hz, hs, hby⟩ := info_parts hinfo
  obtain ⟨hl, A, c, rfl, hc, hcell⟩ := hr
  have fin : ∀ (v' : Value) (w' : World), w'.ownsRow 0 e size v' (n + m) (cs ++ ds) → w.grownBy w' v.ownBlock → (v'.ownBlock = v.ownBlock ∨ v'.ownBlock = some w.heap.size) →
      OwC w' e size (fun k => F k ∨ Iv w.heap.size w'.heap.size k) v' (n + m) (cs ++ ds) ∧ Kp (fun k => v.ownBlock = some k) w w' := by
    intro v' w' hown hg hat
    refine ⟨⟨hown, fun k hk => ?_⟩, ⟨hg.os, hg.tape, hg.output, hg.size, fun k hk hn => hg.block k hk (fun e => hn e.symm)⟩⟩
    rcases hat with hat | hat
    · exact .inl (ho.fit k (by rw [← hat]; exact hk))
    · have hlt := (hown.lt k hk).2
      rw [hat] at hk
      injection hk with hk
      exact .inr ⟨by omega, hlt⟩
  rcases Nat.eq_zero_or_pos (m * size) with h0 | h0
  · have hd : ds = [] := List.eq_nil_of_length_eq_zero (by rw [hl, h0])
    have hm0 : m = 0 := by
      rcases Nat.mul_eq_zero.1 h0 with h | h
      · exact h
      · omega
    subst hd
    subst hm0
    rcases A with _ | ad
    · refine ⟨v, w, ?_, ?_⟩
      · rcases ho.own.2 with ⟨rfl, rfl⟩ | ⟨g, cap, cur, rfl, _, _, hnc, _⟩
        · simp [Builtin.append_, run_underlying ht, sizeOf, typeInfo, hi, Builtin.lenOf, Builtin.firstCells]
        · simp [Builtin.append_, run_underlying ht, sizeOf, typeInfo, hi, Builtin.lenOf, Builtin.firstCells, hnc, storeCells]
      · have := fin v w (by simpa using ho.own) (World.grownBy.refl w _) (.inl rfl)
        exact ⟨this.1, this.2, .inl rfl⟩
    · obtain ⟨v', w', hrun, h2, h3, _, h5⟩ := run_append_own_at (P := P) w 0 t ty e i0 z size bytes ht hi hz hs hby hzs hsz v n cs ho.own ad 0 c [] (by simp) (by simp) (by simp) (by simp only [maxLen]; omega) hb (Nat.zero_le _)
      have := fin v' w' h2 h3 h5
      exact ⟨v', w', hrun, this.1, this.2, h5⟩
  · have hex : ∃ ad, A = some ad := by
      obtain ⟨ad, e1, _⟩ := hcell 0 (ds[0]'(by omega)) (List.getElem?_eq_getElem (by omega))
      exact ⟨ad, e1⟩
    obtain ⟨ad, rfl⟩ := hex
    have hcell' : ∀ j u, ds[j]? = some u → w.cell? (ad.add j) = some u := fun j u hu => by
      obtain ⟨ad', e1, h⟩ := hcell j u hu
      injection e1 with e1
      subst e1
      exact h
    obtain ⟨v', w', hrun, h2, h3, _, h5⟩ := run_append_own_at (P := P) w 0 t ty e i0 z size bytes ht hi hz hs hby hzs hsz v n cs ho.own ad m c ds hl hcell' h1 (by simp only [maxLen]; omega) hb (Nat.zero_le _)
    have := fin v' w' h2 h3 h5
    exact ⟨v', w', hrun, this.1, this.2, h5⟩
/-- bytes onto bytes -/
theorem run_appB {t ty e : TypeId} (ht : P.underlying t = some (.slice e)) (hinfo : (P.info? e).map (fun i => (i.zero, i.size, i.bytes)) = some (some (.int .u8 0), 1, 1))
    {F : Nat → Prop} {v x : Value} {xs ys : List UInt8} (ho : OwB w e F v xs) (hr : RdB w x ys) (hb : xs.length + ys.length ≤ 10000000000000) :
    ∃ v' w', (Builtin.append_ #[t, t] ty #[v, x]).run P w = .ok v' w' ∧ OwB w' e (fun k => F k ∨ Iv w.heap.size w'.heap.size k) v' (xs ++ ys) ∧ Kp (fun k => v.ownBlock = some k) w w' ∧ (v'.ownBlock = v.ownBlock ∨ v'.ownBlock = some w.heap.size) := by
  obtain ⟨v', w', hrun, h1, h2, h3⟩ := run_app w (ty := ty) ht hinfo rfl (by omega) ho hr (bvs_one ys) (by omega) (by omega)
  exact ⟨v', w', hrun, by rw [OwB, List.length_append, bvs_append]; exact h1, h2, h3⟩
/-- .. onto nil: what comes is new -/
theorem run_appB_nil {t ty e : TypeId} (ht : P.underlying t = some (.slice e)) (hinfo : (P.info? e).map (fun i => (i.zero, i.size, i.bytes)) = some (some (.int .u8 0), 1, 1))
    {x : Value} {ys : List UInt8} (hr : RdB w x ys) (hb : ys.length ≤ 10000000000000) :
    ∃ v' w', (Builtin.append_ #[t, t] ty #[.slice none 0 0, x]).run P w = .ok v' w' ∧ OwB w' e (Iv w.heap.size w'.heap.size) v' ys ∧ KpN w w' := by
  obtain ⟨v', w', hrun, h1, h2, h3⟩ := run_appB w (ty := ty) ht hinfo (F := fun _ => False) (xs := []) (OwC.nil w e 1 _) hr (by simpa using hb)
  exact ⟨v', w', hrun, by rw [List.nil_append] at h1; exact h1.wide (fun k _ h => h.elim (fun x => x.elim) id), h2.mono (fun k _ h => by simp [Value.ownBlock] at h)⟩
/-- a string's bytes onto bytes -/
theorem run_appS {t u ty e : TypeId} (ht : P.underlying t = some (.slice e)) (hu : P.underlying u = some .string) (hinfo : (P.info? e).map (fun i => (i.zero, i.size, i.bytes)) = some (some (.int .u8 0), 1, 1))
    {F : Nat → Prop} {v : Value} {xs : List UInt8} (ho : OwB w e F v xs) (s : ByteArray) (hb : xs.length + s.size ≤ 10000000000000) :
    ∃ v' w', (Builtin.append_ #[t, u] ty #[v, .string s]).run P w = .ok v' w' ∧ OwB w' e (fun k => F k ∨ Iv w.heap.size w'.heap.size k) v' (xs ++ s.data.toList) ∧ Kp (fun k => v.ownBlock = some k) w w' := by
  obtain ⟨i0, hi, hz, hs, hby⟩ := info_parts hinfo
  obtain ⟨v', w', hrun, h2, h3, _⟩ := Lib.run_append_own_string (P := P) w 0 t u ty e i0 ht hu hi hz hs hby v xs.length (bvs xs) ho.own s (by simp only [maxLen]; omega) (by omega) (Nat.zero_le _)
  have hsz : s.data.toList.length = s.size := Array.length_toList
  have hown : w'.ownsRow 0 e 1 v' (xs ++ s.data.toList).length (bvs (xs ++ s.data.toList)) := by
    rw [List.length_append, hsz, bvs_append]; exact h2
  refine ⟨v', w', hrun, ⟨hown, fun k hk => ?_⟩, ⟨h3.os, h3.tape, h3.output, h3.size, fun k hk hn => h3.block k hk (fun e => hn e.symm)⟩⟩
  have hlt := (hown.lt k hk).2
  rcases ho.own.2 with ⟨rfl, hx0⟩ | ⟨g, cap, cur, rfl, hbg, hg, hnc, hcm, hcs, htake⟩
  · obtain ⟨v2, w2, hrun2, h4, _, _⟩ := Lib.run_append_own_string (P := P) w w.heap.size t u ty e i0 ht hu hi hz hs hby (.slice none 0 0) 0 [] (World.ownsRow_nil w _ e 1) s (by simp only [maxLen]; omega) (by omega) (Nat.le_refl _)
    rw [hrun] at hrun2
    injection hrun2 with e1 e2
    subst e1
    exact .inr ⟨(h4.lt k hk).1, hlt⟩
  · by_cases hroom : xs.length + s.size ≤ cap
    · have hrun2 := Lib.run_append_room_string (P := P) w t u ty e i0 ht hu hi hs g xs.length cap cur hg s hroom (by omega)
      rw [hrun] at hrun2
      injection hrun2 with e1 e2
      subst e1
      exact .inl (ho.fit k hk)
    · have hrun2 := Lib.run_append_grow_string (P := P) w t u ty e i0 (.int .u8 0) ht hu hi hz ⟨g, 0, none⟩ xs.length cap (bvs xs) (by rw [hs, bvs_length, Nat.mul_one]) (ho.own.cells (g := g) rfl) s (by omega) (by omega) (by rw [hby]; exact growslice_fits (by omega) (by omega))
      rw [hrun] at hrun2
      injection hrun2 with e1 e2
      subst e1
      simp only [Value.ownBlock, Option.some.injEq] at hk
      exact .inr ⟨by omega, hlt⟩
/-- the end of an array behind a pointer, as a slice -/
theorem run_arr_l {T e N : Nat} (hT : P.underlying T = some (.array N e)) {i : TypeInfo} (hi : P.info? e = some i) (hs : i.size = 1) (g off a : Nat) (h : a < N) :
    (Instr.sliceAt T (.pointer (some ⟨g, off, none⟩)) (some (.int .i64 (a : Int))) none none).run P w = .ok (.slice (some ⟨g, off + a, none⟩) (N - a) (N - a)) w := by
  have h1 : (⟨g, off, none⟩ : Addr).add a = ⟨g, off + a, none⟩ := by unfold Addr.add; split <;> simp_all
  have h2 : N ≠ a := by omega
  have h3 : (a : Int) ≤ (N : Int) := by omega
  simp [Instr.sliceAt, Instr.sureAddr, run_underlying hT, Instr.sliceBounds, run_sliceBound, sizeOf, typeInfo, hi, hs, h1, h2, h3]
/-- bytes as a string -/
theorem run_toStr {t e u : TypeId} (ht : P.underlying t = some (.slice e)) (he : P.underlying e = some (.int .u8)) (hu : P.underlying u = some .string) {v : Value} {xs : List UInt8} (hr : RdB w v xs) :
    (convert t u v).run P w = .ok (.string (bs xs)) w := by
  obtain ⟨hl, A, c, rfl, hc, hcell⟩ := hr
  rcases Nat.eq_zero_or_pos xs.length with h0 | h0
  · have hx : xs = [] := List.eq_nil_of_length_eq_zero h0
    subst hx
    rcases A with _ | ad
    · exact run_convert_bytes_nil w t e ht he 0 c u hu
    · exact run_convert_bytes_back w t u e ad c [] ht he hu (fun j hj => absurd hj (by simp))
  · obtain ⟨ad, rfl, _⟩ := hcell 0 (bv xs[0]) (by rw [bvs_get, List.getElem?_eq_getElem h0]; rfl)
    refine run_convert_bytes_back w t u e ad c xs ht he hu fun j hj => ?_
    obtain ⟨ad', e1, h⟩ := hcell j (bv xs[j]) (by rw [bvs_get, List.getElem?_eq_getElem hj]; rfl)
    injection e1 with e1
    subst e1
    exact h
/-- at the operation: the append whose run is known -/
theorem app_op {w : World} {t tn ty : TypeId} {vs vx v' : Value} {w' : World} {ops : Array Oper} {rest : List Oper} {dst : Option Tmp} {pos : String} {af : Array Edge} {a : Act} {Q : Exit → Act → World → Prop} {s x : Operand}
    (hr : (Builtin.append_ #[t, tn] ty #[vs, vx]).run P w = .ok v' w') (hs : a.eval s = vs) (hx : a.eval x = vx)
    (h : wpList P ops Q rest (a.put dst v') w') :
    wpList P ops Q ({ dst := dst, op := .call { callee := .builtin .append, args := #[s, x], argTypes := #[t, tn] }, type := ty, pos := pos, after := af, guard := none } :: rest) a w :=
  Lib.wpList_append_run w rfl s x t tn rfl vs vx hs hx v' w' hr h
/-- .. the conversion -/
theorem conv_op {w : World} {t u ty : TypeId} {v v' : Value} {w' : World} {ops : Array Oper} {rest : List Oper} {dst : Option Tmp} {pos : String} {af : Array Edge} {a : Act} {Q : Exit → Act → World → Prop} {x : Operand}
    (hr : (convert t u v).run P w = .ok v' w') (hx : a.eval x = v) (h : wpList P ops Q rest (a.put dst v') w') :
    wpList P ops Q ({ dst := dst, op := .convert t u x, type := ty, pos := pos, after := af, guard := none } :: rest) a w := by
  refine wpList_plain rfl fun _ hK => ?_
  unfold Oper.wp execOp
  simp only [hx, Sem.run_bind, hr, Result.andThen_ok, Sem.run_pure]
  exact hK _ _ h
/-- .. behind a guard that is met -/
theorem conv_opg {w : World} {t u ty : TypeId} {v v' : Value} {w' : World} {ops : Array Oper} {rest : List Oper} {dst : Option Tmp} {pos : String} {af : Array Edge} {gd : Option (Nat × Bool)} {a : Act} {Q : Exit → Act → World → Prop} {x : Operand}
    (hr : (convert t u v).run P w = .ok v' w') (hx : a.eval x = v) (hw : Region.wanted { dst := dst, op := .convert t u x, type := ty, pos := pos, after := af, guard := gd } (yielded ops a.tmps) = true) (h : wpList P ops Q rest (a.put dst v') w') :
    wpList P ops Q ({ dst := dst, op := .convert t u x, type := ty, pos := pos, after := af, guard := gd } :: rest) a w := by
  refine wpList_step fun K hK => ?_
  rw [if_pos hw]
  unfold Oper.wp execOp
  simp only [hx, Sem.run_bind, hr, Result.andThen_ok, Sem.run_pure]
  exact hK _ _ h
end
end Go.Proofs.Yteokkpmndfekoaa
