/- Rows of datagrams in memory, each with bytes of its own. -/
import Derived.Test.YteokkpmndfekoaaDoorOW
import Derived.Test.YteokkpmndfekoaaDoorR
namespace Go.Proofs.YteokkpmndfekoaaDoor
open Go Go.RowKit
set_option maxRecDepth 100000

/-- a datagram: where its bytes lie, what they are, was it turned -/
structure Dg where
  v : Value
  b : List UInt8
  t : Bool
/-- its cells (the program's have the mark ahead, the document's the bytes) -/
def dgC (o : Bool) (d : Dg) : List Value := if o then [.bool d.t, d.v] else [d.v, .bool d.t]
def dgCs (o : Bool) (ls : List Dg) : List Value := ls.flatMap (dgC o)
theorem dgC_len (o : Bool) (d : Dg) : (dgC o d).length = 2 := by cases o <;> rfl
theorem dgCs_cons (o : Bool) (d : Dg) (ls : List Dg) : dgCs o (d :: ls) = dgC o d ++ dgCs o ls := rfl
theorem dgCs_len (o : Bool) (ls : List Dg) : (dgCs o ls).length = ls.length * 2 := by
  induction ls with
  | nil => rfl
  | cons d r ih => rw [dgCs_cons, List.length_append, dgC_len, ih, List.length_cons]; omega
theorem dgCs_app (o : Bool) (xs ys : List Dg) : dgCs o (xs ++ ys) = dgCs o xs ++ dgCs o ys := by simp [dgCs]
theorem dgCs_one (o : Bool) (d : Dg) : dgCs o [d] = dgC o d := by simp [dgCs]
theorem dgCs_take (o : Bool) (ls : List Dg) : ∀ k, (dgCs o ls).take (k * 2) = dgCs o (ls.take k) := by
  induction ls with
  | nil => intro k; simp [dgCs]
  | cons d r ih =>
    intro k
    cases k with
    | zero => simp [dgCs]
    | succ k =>
      rw [show (k + 1) * 2 = k * 2 + 1 + 1 by omega, List.take_succ_cons, dgCs_cons, dgCs_cons, ← ih k]
      cases o <;> simp [dgC]
theorem dgCs_drop (o : Bool) (ls : List Dg) : ∀ k, (dgCs o ls).drop (k * 2) = dgCs o (ls.drop k) := by
  induction ls with
  | nil => intro k; simp [dgCs]
  | cons d r ih =>
    intro k
    cases k with
    | zero => simp [dgCs]
    | succ k =>
      rw [show (k + 1) * 2 = k * 2 + 1 + 1 by omega, List.drop_succ_cons, dgCs_cons, ← ih k]
      cases o <;> simp [dgC]
theorem dgCs_get (o : Bool) (ls : List Dg) : ∀ (i : Nat) (h : i < ls.length) (k : Nat), k < 2 → (dgCs o ls)[i * 2 + k]? = (dgC o ls[i])[k]? := by
  induction ls with
  | nil => intro i h; simp at h
  | cons d r ih =>
    intro i h k hk
    cases i with
    | zero =>
      rw [dgCs_cons, Nat.zero_mul, Nat.zero_add, List.getElem?_append_left (by rw [dgC_len]; exact hk)]
      rfl
    | succ i =>
      rw [dgCs_cons, List.getElem?_append_right (by rw [dgC_len]; omega), dgC_len, show (i + 1) * 2 + k - 2 = i * 2 + k by omega, ih i (by simpa using h) k hk]
      rfl
theorem dgCs_one_cell {w : World} {U : Nat} {F : Nat → Prop} (o : Bool) (ls : List Dg) (h : ∀ d ∈ ls, OwB w U F d.v d.b) : ∀ u ∈ dgCs o ls, u.oneCell' = true := by
  intro u hu
  obtain ⟨d, hd, hu⟩ := List.mem_flatMap.1 hu
  have h1 := (h d hd).oneCell
  cases o <;> simp [dgC] at hu <;> rcases hu with rfl | rfl <;> first | exact h1 | rfl
/-- their bytes: each a row of its own, no two share memory -/
structure DgS (w : World) (F : Nat → Prop) (ls : List Dg) : Prop where
  each : ∀ d ∈ ls, OwB w 5 F d.v d.b
  apart : ls.Pairwise fun a b => ∀ k, a.v.ownBlock = some k → b.v.ownBlock ≠ some k
section
variable {w w' : World} {F G : Nat → Prop} {ls ms : List Dg}
theorem DgS.nil (w : World) (F : Nat → Prop) : DgS w F [] := ⟨fun _ h => (List.not_mem_nil h).elim, List.Pairwise.nil⟩
theorem DgS.keepB (h : DgS w F ls) {S : Nat → Prop} (k : Kp S w w') (hs : ∀ d ∈ ls, ∀ i, d.v.ownBlock = some i → ¬ S i) : DgS w' F ls := ⟨fun d hd => (h.each d hd).keepB k (hs d hd), h.apart⟩
theorem DgS.keep (h : DgS w F ls) {S : Nat → Prop} (k : Kp S w w') (hs : ∀ i, F i → ¬ S i) : DgS w' F ls := h.keepB k (fun d hd i hi => hs i ((h.each d hd).fit i hi))
theorem DgS.wide (h : DgS w F ls) (hg : ∀ k, k < w.heap.size → F k → G k) : DgS w G ls := ⟨fun d hd => (h.each d hd).wide hg, h.apart⟩
theorem DgS.sub (h : DgS w F ls) (hs : ms.Sublist ls) : DgS w F ms := ⟨fun d hd => h.each d (hs.subset hd), h.apart.sublist hs⟩
theorem DgS.snoc (h : DgS w F ls) {d : Dg} (o : OwB w 5 G d.v d.b) (hd : ∀ i, F i → ¬ G i) : DgS w (fun i => F i ∨ G i) (ls ++ [d]) := by
  refine ⟨fun x hx => ?_, List.pairwise_append.2 ⟨h.apart, List.pairwise_singleton _ _, fun a ha b hb k hk hk2 => ?_⟩⟩
  · rcases List.mem_append.1 hx with hx | hx
    · exact (h.each x hx).wide (fun _ _ x => .inl x)
    · obtain rfl := List.mem_singleton.1 hx
      exact o.wide (fun _ _ x => .inr x)
  · obtain rfl := List.mem_singleton.1 hb
    exact hd k ((h.each a ha).fit k hk) (o.fit k hk2)
/-- one is exchanged for another -/
theorem DgS.put (h : DgS w F ls) (i : Nat) {d : Dg} (o : OwB w 5 G d.v d.b) (hd : ∀ i, F i → ¬ G i) : DgS w (fun i => F i ∨ G i) (ls.set i d) := by
  refine ⟨fun x hx => ?_, List.pairwise_iff_getElem.2 fun a b ha hb hab k hk hk2 => ?_⟩
  · rcases List.mem_or_eq_of_mem_set hx with hx | rfl
    · exact (h.each x hx).wide (fun _ _ x => .inl x)
    · exact o.wide (fun _ _ x => .inr x)
  · rw [List.length_set] at ha hb
    rw [List.getElem_set] at hk hk2
    split at hk <;> split at hk2
    · omega
    · exact hd k ((h.each _ (List.getElem_mem hb)).fit k hk2) (o.fit k hk)
    · exact hd k ((h.each _ (List.getElem_mem ha)).fit k hk) (o.fit k hk2)
    · exact List.pairwise_iff_getElem.1 h.apart a b ha hb hab k hk hk2
end
/-- .. in a row (of the type T) of the call's own -/
structure DgR (o : Bool) (T : Nat) (w : World) (F : Nat → Prop) (v : Value) (ls : List Dg) : Prop where
  row : OwC w T 2 F v ls.length (dgCs o ls)
  all : DgS w F ls
section
variable {o : Bool} {T : Nat} {w w' : World} {F G : Nat → Prop} {v : Value} {ls : List Dg}
theorem DgR.nil (o : Bool) (T : Nat) (w : World) (F : Nat → Prop) : DgR o T w F (.slice none 0 0) [] := ⟨OwC.nil w T 2 F, DgS.nil w F⟩
theorem DgR.keep (h : DgR o T w F v ls) {S : Nat → Prop} (k : Kp S w w') (hs : ∀ i, F i → ¬ S i) : DgR o T w' F v ls := ⟨h.row.keep k hs, h.all.keep k hs⟩
theorem DgR.keepN (h : DgR o T w F v ls) (k : KpN w w') : DgR o T w' F v ls := h.keep k (fun _ _ x => x)
theorem DgR.wide (h : DgR o T w F v ls) (hg : ∀ k, k < w.heap.size → F k → G k) : DgR o T w G v ls := ⟨h.row.wide hg, h.all.wide hg⟩
theorem DgR.out (h : DgR o T w F v ls) (hT : T ≠ 5) : ∀ d ∈ ls, ∀ k, v.ownBlock = some k → d.v.ownBlock ≠ some k := fun d hd => h.row.neT (h.all.each d hd) hT
theorem DgR.form (h : DgR o T w F v ls) (hn : 0 < ls.length) : ∃ g cap, v = .slice (some ⟨g, 0, none⟩) ls.length cap ∧ F g ∧ ls.length ≤ cap := h.row.form hn
theorem DgR.cellAt {g n cap : Nat} (h : DgR o T w F (.slice (some ⟨g, 0, none⟩) n cap) ls) (i : Nat) (hi : i < ls.length) (k : Nat) (hk : k < 2) : w.cell? ⟨g, i * 2 + k, none⟩ = (dgC o ls[i])[k]? := by
  rw [← dgCs_get o ls i hi k hk, ← add_plain' g (i * 2 + k)]
  have hlt : i * 2 + k < (dgCs o ls).length := by rw [dgCs_len]; omega
  rw [List.getElem?_eq_getElem hlt]
  exact h.row.own.cells (g := g) rfl _ _ (List.getElem?_eq_getElem hlt)
theorem DgR.p0 {g n cap : Nat} (h : DgR true T w F (.slice (some ⟨g, 0, none⟩) n cap) ls) (i : Nat) (hi : i < ls.length) : w.cell? ⟨g, i * 2, none⟩ = some (.bool ls[i].t) := h.cellAt i hi 0 (by omega)
theorem DgR.p1 {g n cap : Nat} (h : DgR true T w F (.slice (some ⟨g, 0, none⟩) n cap) ls) (i : Nat) (hi : i < ls.length) : w.cell? ⟨g, i * 2 + 1, none⟩ = some ls[i].v := h.cellAt i hi 1 (by omega)
theorem DgR.r0 {g n cap : Nat} (h : DgR false T w F (.slice (some ⟨g, 0, none⟩) n cap) ls) (i : Nat) (hi : i < ls.length) : w.cell? ⟨g, i * 2, none⟩ = some ls[i].v := h.cellAt i hi 0 (by omega)
theorem DgR.r1 {g n cap : Nat} (h : DgR false T w F (.slice (some ⟨g, 0, none⟩) n cap) ls) (i : Nat) (hi : i < ls.length) : w.cell? ⟨g, i * 2 + 1, none⟩ = some (.bool ls[i].t) := h.cellAt i hi 1 (by omega)
theorem DgR.frozenAt {g n cap : Nat} (h : DgR o T w F (.slice (some ⟨g, 0, none⟩) n cap) ls) (j : Nat) : w.frozen? ⟨g, j, none⟩ = false := by
  rcases h.row.own.2 with ⟨hv, _⟩ | ⟨g', cap', cur, hv, _, hgg, _⟩
  · cases hv
  · injection hv with h1
    injection h1 with h1
    injection h1 with h1
    subst h1
    exact frozen_of_row w _ j cur T hgg
/-- one more, at its end -/
theorem DgR.push {z : Value} {bytes t ty : Nat} (hT : T ≠ 5) (ht : Tryd.prog.underlying t = some (.slice T)) (hinfo : (Tryd.prog.info? T).map (fun i => (i.zero, i.size, i.bytes)) = some (some z, 2, bytes)) (hzs : z.cells.size = 2) (hby : bytes ≤ 1000)
    (h : DgR o T w F v ls) {d : Dg} (ou : OwB w 5 G d.v d.b) (hd : ∀ k, F k → ¬ G k) {x : Value} (hx : RdC w 2 x 1 (dgC o d)) (hn : ls.length ≤ 1000000) :
    ∃ v' w', (Builtin.append_ #[t, t] ty #[v, x]).run Tryd.prog w = .ok v' w' ∧ DgR o T w' (fun k => F k ∨ G k ∨ Iv w.heap.size w'.heap.size k) v' (ls ++ [d]) ∧ Kp (fun k => v.ownBlock = some k) w w' ∧ (v'.ownBlock = v.ownBlock ∨ v'.ownBlock = some w.heap.size) := by
  have hb : (ls.length + 1) * bytes ≤ 140737488355328 := Nat.le_trans (Nat.mul_le_mul (Nat.succ_le_succ hn) hby) (by omega)
  obtain ⟨v', w', hr, h1, h2, h3⟩ := run_app w (ty := ty) ht hinfo hzs (by omega) h.row hx (by rw [← dgCs_one]; exact dgCs_one_cell o [d] (fun y hy => by obtain rfl := List.mem_singleton.1 hy; exact ou)) hb (by omega)
  refine ⟨v', w', hr, ⟨?_, ?_⟩, h2, h3⟩
  · rw [List.length_append, List.length_singleton, dgCs_app, dgCs_one]
    exact h1.wide (fun k _ hk => by rcases hk with hk | hk; exact .inl hk; exact .inr (.inr hk))
  · have hs := h.all.keepB h2 (fun d hd i hi hi2 => h.out hT d hd i hi2 hi)
    have ho := ou.keepB h2 (fun i hi hi2 => hd i (h.row.fit i hi2) (ou.fit i hi))
    exact (hs.snoc ho hd).wide (fun k _ hk => by rcases hk with hk | hk; exact .inl hk; exact .inr (.inl hk))
/-- a part of them, onto a row (of which they are the bytes too) -/
theorem DgR.part (h : DgR o T w F v ls) (ms : List Dg) (hs : ms.Sublist ls) {v' : Value} {G : Nat → Prop} (hr : OwC w' T 2 G v' ms.length (dgCs o ms)) {S : Nat → Prop} (k : Kp S w w') (hk : ∀ d ∈ ls, ∀ i, d.v.ownBlock = some i → ¬ S i) (hG : ∀ i, F i → G i) : DgR o T w' G v' ms :=
  ⟨hr, ((h.all.keepB k hk).sub hs).wide (fun _ _ x => hG _ x)⟩
end
/-- a way behind the pointer to block g, with room for n -/
structure WayM (o : Bool) (T : Nat) (w : World) (F : Nat → Prop) (g n : Nat) (v : Value) (ls : List Dg) : Prop where
  n1 : 1 ≤ n
  n2 : n ≤ 1024
  fit : F g
  lt : g < w.heap.size
  c0 : w.cell? ⟨g, 0, none⟩ = some (.int .i64 (n : Int))
  c1 : w.cell? ⟨g, 1, none⟩ = some v
  fz : ∀ j, w.frozen? ⟨g, j, none⟩ = false
  r : DgR o T w F v ls
  ne : v.ownBlock ≠ some g
  nes : ∀ d ∈ ls, d.v.ownBlock ≠ some g
  le : ls.length ≤ n
  sm : ∀ d ∈ ls, d.b.length ≤ 2048
section
variable {o : Bool} {T : Nat} {w w' : World} {F G : Nat → Prop} {g n : Nat} {v : Value} {ls : List Dg}
theorem WayM.keep (h : WayM o T w F g n v ls) {S : Nat → Prop} (k : Kp S w w') (hs : ∀ i, F i → ¬ S i) : WayM o T w' F g n v ls :=
  { h with lt := Nat.lt_of_lt_of_le h.lt k.size, c0 := by rw [k.cell h.lt (hs _ h.fit)]; exact h.c0, c1 := by rw [k.cell h.lt (hs _ h.fit)]; exact h.c1, fz := fun j => by rw [k.frozen h.lt (hs _ h.fit)]; exact h.fz j, r := h.r.keep k hs }
theorem WayM.keepN (h : WayM o T w F g n v ls) (k : KpN w w') : WayM o T w' F g n v ls := h.keep k (fun _ _ x => x)
theorem WayM.wide (h : WayM o T w F g n v ls) (hg : ∀ k, k < w.heap.size → F k → G k) : WayM o T w G g n v ls :=
  { h with fit := hg _ h.lt h.fit, r := h.r.wide hg }
/-- another row is stored in it -/
theorem WayM.setRow (h : WayM o T w F g n v ls) {S : Nat → Prop} (k : Kp S w w') (hs : ¬ S g) {v' : Value} {ls' : List Dg} (hr : DgR o T w' G v' ls') (hg : G g) (hne : v'.ownBlock ≠ some g) (hnes : ∀ d ∈ ls', d.v.ownBlock ≠ some g) (hle : ls'.length ≤ n) (hsm : ∀ d ∈ ls', d.b.length ≤ 2048) :
    WayM o T (w'.setCell ⟨g, 1, none⟩ v') G g n v' ls' := by
  have ks : Kp (fun k => k = g) w' (w'.setCell ⟨g, 1, none⟩ v') := (Kp.refl (fun k => k = g) w').setCell (p := ⟨g, 1, none⟩) (.inl rfl) v'
  have hc1 : w'.cell? ⟨g, 1, none⟩ = some v := by rw [k.cell h.lt hs]; exact h.c1
  refine ⟨h.n1, h.n2, hg, ?_, ?_, World.cell?_setCell_same _ _ _ hc1, fun j => ?_, ⟨hr.row.keepB ks (fun i hi e => hne (by rw [← e]; exact hi)), hr.all.keepB ks (fun d hd i hi e => hnes d hd (by rw [← e]; exact hi))⟩, hne, hnes, hle, hsm⟩
  · have := k.size; have := ks.size; have := h.lt; omega
  · rw [World.cell?_setCell_other _ _ _ _ (fun e => by cases e), k.cell h.lt hs]; exact h.c0
  · have : (w'.setCell ⟨g, 1, none⟩ v').frozen? ⟨g, j, none⟩ = w'.frozen? ⟨g, j, none⟩ := by simp
    rw [this, k.frozen h.lt hs]; exact h.fz j
end
theorem dgCs_set (ls : List Dg) (d : Dg) : ∀ j, dgCs true (ls.set j d) = ((dgCs true ls).set (j * 2 + 1) d.v).set (j * 2) (.bool d.t) := by
  induction ls with
  | nil => intro j; simp [dgCs]
  | cons x r ih =>
    intro j
    cases j with
    | zero => rfl
    | succ j =>
      rw [List.set_cons_succ, dgCs_cons, dgCs_cons, ih j, show (j + 1) * 2 = j * 2 + 1 + 1 by omega]
      simp [dgC]
theorem dgCs_setR (ls : List Dg) (d : Dg) : ∀ j, dgCs false (ls.set j d) = ((dgCs false ls).set (j * 2) d.v).set (j * 2 + 1) (.bool d.t) := by
  induction ls with
  | nil => intro j; simp [dgCs]
  | cons x r ih =>
    intro j
    cases j with
    | zero => rfl
    | succ j =>
      rw [List.set_cons_succ, dgCs_cons, dgCs_cons, ih j, show (j + 1) * 2 = j * 2 + 1 + 1 by omega]
      simp [dgC]
/-- another datagram is put in a place -/
theorem WayM.put {o : Bool} {T : Nat} {w w' : World} {F G : Nat → Prop} {g n gr m cap j : Nat} {ls : List Dg} {d : Dg} (hT : T ≠ 5) (h : WayM o T w F g n (.slice (some ⟨gr, 0, none⟩) m cap) ls) (ou : OwB w 5 G d.v d.b) (hd : ∀ i, F i → ¬ G i) (hx : d.b.length ≤ 2048) (k : Kp (fun k => k = gr) w w')
    (hr : OwC w' T 2 F (.slice (some ⟨gr, 0, none⟩) m cap) m (dgCs o (ls.set j d))) : WayM o T w' (fun i => F i ∨ G i) g n (.slice (some ⟨gr, 0, none⟩) m cap) (ls.set j d) := by
  have hFr : F gr := h.r.row.fit gr rfl
  have hne : ¬ g = gr := fun e => h.ne (by rw [e]; rfl)
  have hm : m = ls.length := by
    obtain ⟨A, c, hv, _⟩ := h.r.row.reads.2
    injection hv
  have hs := (h.r.all.keepB k (fun x hx i hi e => h.r.out hT x hx i (by rw [e]; rfl) hi)).put j (ou.keepB k (fun i hi e => hd gr hFr (by rw [← e]; exact ou.fit i hi))) hd
  refine ⟨h.n1, h.n2, .inl h.fit, Nat.lt_of_lt_of_le h.lt k.size, ?_, ?_, ?_, ⟨?_, hs⟩, h.ne, ?_, ?_, ?_⟩
  · rw [k.cell h.lt hne]; exact h.c0
  · rw [k.cell h.lt hne]; exact h.c1
  · intro j; rw [k.frozen h.lt hne]; exact h.fz j
  · rw [List.length_set, ← hm]; exact hr.wide (fun _ _ x => .inl x)
  · intro x hx2
    rcases List.mem_or_eq_of_mem_set hx2 with hx2 | rfl
    · exact h.nes x hx2
    · exact fun e => hd g h.fit (ou.fit g e)
  · rw [List.length_set]; exact h.le
  · intro x hx2
    rcases List.mem_or_eq_of_mem_set hx2 with hx2 | rfl
    · exact h.sm x hx2
    · exact hx
/-- what a way holds, and which of it was turned -/
def stOf (ls : List Dg) : List (List UInt8 × Bool) := ls.map fun d => (d.b, d.t)
def WayX (o : Bool) (T : Nat) (w : World) (F : Nat → Prop) (g n : Nat) (st : List (List UInt8 × Bool)) : Prop := ∃ v ls, WayM o T w F g n v ls ∧ stOf ls = st
end Go.Proofs.YteokkpmndfekoaaDoor
