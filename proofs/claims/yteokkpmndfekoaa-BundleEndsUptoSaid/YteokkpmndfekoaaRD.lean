/- Readers: how the values of a type in memory read, put together from the type's parts. -/
import Derived.Test.YteokkpmndfekoaaU
import Derived.Test.YteokkpmndfekoaaR
namespace Go.Proofs.Yteokkpmndfekoaa
open Go Go.RowKit Go.ChangeShapes Go.WideShapes Go.ChangeAt
set_option maxRecDepth 100000

/-- how the cells of a value of type t read -/
structure Rd (t : TypeId) (α : Type) where
  n : Nat
  rd : World → List Value → α → Prop
  size : α → Nat
  cells : Try.prog.cellsOf t = n
  op : ∀ {H : Type} {enc : TypeId × Value → H} {W : World} {base : Nat} {sp : Nat → Bool} {held : Bool} {fuel : Nat} {cs : List Value} {x : DataW H × List MemPlace}, DataW.trod enc Try.prog W base sp held fuel t cs = some x → ∃ a, rd W cs a ∧ size a ≤ Rows.uptoBulk x.1
  len : ∀ {W : World} {cs : List Value} {a : α}, rd W cs a → cs.length = n
  keep : ∀ {w w' : World} {cs : List Value} {a : α}, rd w cs a → KpN w w' → rd w' cs a
theorem Rd.open_ {t : TypeId} {α : Type} (r : Rd t α) {H : Type} {enc : TypeId × Value → H} {W : World} {base : Nat} {sp : Nat → Bool} {held : Bool} {v : Value} {d : DataW H} {p : List MemPlace} (h : DataW.Trod enc Try.prog W base sp held t v d p) : ∃ a, r.rd W v.cells.toList a ∧ r.size a ≤ Rows.uptoBulk d := by
  obtain ⟨fuel, hf⟩ := h
  exact r.op hf
def intRd (k : IntKind) (t : TypeId) (ht : Try.prog.underlying t = some (.int k)) (hc : Try.prog.cellsOf t = 1) : Rd t Int where
  n := 1
  rd _ cs a := cs = [.int k a] ∧ (Lit.int k a).wf = true
  size _ := 1
  cells := hc
  op h := by
    obtain ⟨a, rfl, rfl, hw⟩ := DataW.trod_int ht h
    exact ⟨a, ⟨rfl, hw⟩, Bulk.one_le _⟩
  len h := by rw [h.1]; rfl
  keep h _ := h
def boolRd (t : TypeId) (ht : Try.prog.underlying t = some .bool) (hc : Try.prog.cellsOf t = 1) : Rd t Bool where
  n := 1
  rd _ cs a := cs = [.bool a]
  size _ := 1
  cells := hc
  op h := by
    obtain ⟨a, rfl, rfl⟩ := DataW.trod_bool ht h
    exact ⟨a, rfl, Bulk.one_le _⟩
  len h := by rw [h]; rfl
  keep h _ := h
def bytesRd (t : TypeId) (ht : Try.prog.underlying t = some (.slice 5)) (hc : Try.prog.cellsOf t = 1) : Rd t (List UInt8) where
  n := 1
  rd W cs xs := ∃ v, cs = [v] ∧ RdB W v xs
  size xs := xs.length + 1
  cells := hc
  op {H enc W base sp held fuel cs x} h := by
    obtain ⟨d, p⟩ := x
    have hs : ∃ a len cap, cs = [.slice a len cap] := by
      rcases DataW.trod_slice ht h with ⟨rfl, _⟩ | ⟨a, len, cap, _, _, _, _, rfl, _⟩
      · exact ⟨none, 0, 0, rfl⟩
      · exact ⟨some a, len, cap, rfl⟩
    obtain ⟨a, len, cap, rfl⟩ := hs
    obtain ⟨xs, h1, h2, h3⟩ := open_bytes ht ⟨fuel, by simpa [Value.cells] using h⟩
    refine ⟨xs, ⟨_, rfl, h1⟩, ?_⟩
    split at h2
    · rename_i ha
      subst ha
      have hx : xs.length = 0 := by
        rcases xs with _ | ⟨y, r⟩
        · rfl
        · obtain ⟨_, A, c, hv, _, hr⟩ := h1
          injection hv with h4
          subst h4
          obtain ⟨ad, he, _⟩ := hr 0 (bv y) (by simp [bvs])
          cases he
      have := Bulk.one_le d
      simp only at h2 ⊢
      omega
    · simpa using h2
  len h := by obtain ⟨v, rfl, _⟩ := h; rfl
  keep h k := by obtain ⟨v, rfl, h⟩ := h; exact ⟨v, rfl, h.keepN k⟩
/-- a slice whose elements read so -/
def SlAt {α : Type} (W : World) (n : Nat) (rd : World → List Value → α → Prop) (v : Value) (ys : List α) : Prop :=
  ∃ A c, v = .slice A ys.length c ∧ ys.length ≤ c ∧ ∀ j (h : j < ys.length), ∃ ad cs, A = some ad ∧ cs.length = n ∧ RowAt W (ad.add (j * n)) cs ∧ rd W cs ys[j]
theorem SlAt.form {α : Type} {W : World} {n : Nat} {rd : World → List Value → α → Prop} {v : Value} {ys : List α} (h : SlAt W n rd v ys) : ∃ A c, v = .slice A ys.length c ∧ ys.length ≤ c := by
  obtain ⟨A, c, h1, h2, _⟩ := h
  exact ⟨A, c, h1, h2⟩
theorem SlAt.row {α : Type} {W : World} {n k c : Nat} {A : Option Addr} {rd : World → List Value → α → Prop} {ys : List α} (h : SlAt W n rd (.slice A k c) ys) (j : Nat) (hj : j < ys.length) : ∃ ad cs, A = some ad ∧ cs.length = n ∧ RowAt W (ad.add (j * n)) cs ∧ rd W cs ys[j] := by
  obtain ⟨A', c', hv, _, h3⟩ := h
  injection hv with h1 h2 h3
  subst h1
  exact h3 j hj
theorem SlAt.keep {α : Type} {w w' : World} {n : Nat} {rd : World → List Value → α → Prop} {v : Value} {ys : List α} (h : SlAt w n rd v ys) (k : KpN w w') (hk : ∀ {cs : List Value} {a : α}, rd w cs a → KpN w w' → rd w' cs a) : SlAt w' n rd v ys := by
  obtain ⟨A, c, h1, h2, h3⟩ := h
  refine ⟨A, c, h1, h2, fun j hj => ?_⟩
  obtain ⟨ad, cs, h4, h5, h6, h7⟩ := h3 j hj
  exact ⟨ad, cs, h4, h5, h6.keepN k, hk h7 k⟩
theorem SlAt.nil {α : Type} (W : World) (n : Nat) (rd : World → List Value → α → Prop) : SlAt W n rd (.slice none 0 0) [] := ⟨none, 0, rfl, Nat.le_refl _, fun j h => by simp at h⟩
theorem sum_le_bulk {H : Type} {α : Type} (f : α → Nat) : ∀ (ys : List α) (ds : List (DataW H)), ys.length = ds.length → (∀ j (h1 : j < ys.length) (h2 : j < ds.length), f ys[j] ≤ Rows.uptoBulk ds[j]) → (ys.map f).sum ≤ Rows.uptoBulkAll ds := by
  intro ys
  induction ys with
  | nil => intro ds _ _; simp
  | cons a ys ih =>
    intro ds hl h
    rcases ds with _ | ⟨d, ds⟩
    · simp at hl
    · have h0 := h 0 (by simp) (by simp)
      have h1 := ih ds (by simpa using hl) (fun j a b => by have := h (j + 1) (by simpa using a) (by simpa using b); simpa using this)
      simp only [List.map_cons, List.sum_cons, Rows.uptoBulkAll, List.getElem_cons_zero] at h0 ⊢
      omega
def sliceRd {e : TypeId} {α : Type} (r : Rd e α) (t : TypeId) (ht : Try.prog.underlying t = some (.slice e)) (hc : Try.prog.cellsOf t = 1) : Rd t (List α) where
  n := 1
  rd W cs ys := ∃ v, cs = [v] ∧ SlAt W r.n r.rd v ys
  size ys := (ys.map r.size).sum + 1
  cells := hc
  op {H enc W base sp held fuel cs x} h := by
    rcases DataW.trod_slice ht h with ⟨rfl, rfl⟩ | ⟨a, len, cap, elems, rest, n, rfl, rfl, rfl, hb, hl, hm, hel, hi, -, -⟩
    · exact ⟨[], ⟨_, rfl, SlAt.nil _ _ _⟩, by simp [Rows.uptoBulk]⟩
    · have key : ∀ i, (h : i < len) → ∃ (o : α) (cs : List Value), cs.length = r.n ∧ RowAt W (a.add (i * r.n)) cs ∧ r.rd W cs o ∧ ∃ h2 : i < elems.length, r.size o ≤ Rows.uptoBulk elems[i].1 := by
        intro i him
        have h1 := hi i him
        rw [r.cells, List.getElem?_eq_getElem (by omega)] at h1
        obtain ⟨cs', hcs, htr⟩ := Option.bind_eq_some_iff.1 h1
        obtain ⟨_, hcl, hat⟩ := World.cells?_some hcs
        obtain ⟨o, ho, hs⟩ := r.op htr
        refine ⟨o, cs', hcl, fun j v hj => ?_, ho, by omega, hs⟩
        have hjn : j < r.n := by have := (List.getElem?_eq_some_iff.1 hj).1; omega
        rw [hat j hjn]
        exact hj
      let ys : List α := (List.range len).attach.map fun i => (key i.1 (by simpa using i.2)).choose
      have hlen : ys.length = len := by simp [ys]
      have hget : ∀ j (h : j < len), ys[j]'(by omega) = (key j h).choose := fun j h => by simp [ys]
      refine ⟨ys, ⟨_, rfl, some a, cap, by rw [hlen], by omega, fun j hj => ?_⟩, ?_⟩
      · have hj' : j < len := by omega
        obtain ⟨cs', h1, h2, h3, _⟩ := (key j hj').choose_spec
        rw [hget j hj']
        exact ⟨a, cs', rfl, h1, h2, h3⟩
      · have := sum_le_bulk r.size ys (elems.map (·.1)) (by simp; omega) (fun j h1 h2 => by
          have hj' : j < len := by omega
          obtain ⟨cs', _, _, _, h4, h5⟩ := (key j hj').choose_spec
          rw [hget j hj']
          simpa using h5)
        simp only [Rows.uptoBulk]
        omega
  len h := by obtain ⟨v, rfl, _⟩ := h; rfl
  keep h k := by
    obtain ⟨v, rfl, h⟩ := h
    exact ⟨v, rfl, h.keep k (fun x y => r.keep x y)⟩
/-- the fields of a struct from one on -/
structure Fds (fs : List Field) (o : Nat) (α : Type) where
  n : Nat
  rd : World → List Value → α → Prop
  size : α → Nat
  op : ∀ {H : Type} {enc : TypeId × Value → H} {W : World} {base : Nat} {sp : Nat → Bool} {held : Bool} {fuel : Nat} {cs : List Value} {xs : List (DataW H × List MemPlace)}, xs.length = fs.length → o + n ≤ cs.length → (∀ (i : Nat) (f : Field), fs[i]? = some f → DataW.trod enc Try.prog W base sp held fuel f.type ((cs.drop f.offset).take (Try.prog.cellsOf f.type)) = xs[i]?) →
    ∃ a, rd W ((cs.drop o).take n) a ∧ size a ≤ Rows.uptoBulkAll (xs.map (·.1))
  len : ∀ {W : World} {cs : List Value} {a : α}, rd W cs a → cs.length = n
  keep : ∀ {w w' : World} {cs : List Value} {a : α}, rd w cs a → KpN w w' → rd w' cs a
def nilFds (o : Nat) : Fds [] o Unit where
  n := 0
  rd _ cs _ := cs = []
  size _ := 0
  op h _ _ := ⟨(), by simp, by simp⟩
  len h := by rw [h]; rfl
  keep h _ := h
def consFds {f : Field} {fs : List Field} {o : Nat} {α β : Type} (r : Rd f.type α) (ho : f.offset = o) (R : Fds fs (o + r.n) β) : Fds (f :: fs) o (α × β) where
  n := r.n + R.n
  rd W cs a := ∃ c1 c2, cs = c1 ++ c2 ∧ r.rd W c1 a.1 ∧ R.rd W c2 a.2
  size a := r.size a.1 + R.size a.2
  op {H enc W base sp held fuel cs xs} hl hc h := by
    rcases xs with _ | ⟨x, xs⟩
    · simp at hl
    · have h0 := h 0 f rfl
      rw [r.cells, ho] at h0
      obtain ⟨a, ha, hs⟩ := r.op h0
      obtain ⟨b, hb, hs2⟩ := R.op (xs := xs) (cs := cs) (by simpa using hl) (by have h4 : o + (r.n + R.n) ≤ cs.length := hc; omega) (fun i g hg => by have := h (i + 1) g (by simpa using hg); simpa using this)
      refine ⟨(a, b), ⟨_, _, ?_, ha, hb⟩, ?_⟩
      · rw [← List.drop_drop, ← List.take_add]
      · simp only [List.map_cons, Rows.uptoBulkAll]
        omega
  len h := by
    obtain ⟨c1, c2, rfl, h1, h2⟩ := h
    rw [List.length_append, r.len h1, R.len h2]
  keep h k := by
    obtain ⟨c1, c2, rfl, h1, h2⟩ := h
    exact ⟨c1, c2, rfl, r.keep h1 k, R.keep h2 k⟩
def structRd {fs : Array Field} {α : Type} (t : TypeId) (ht : Try.prog.underlying t = some (.struct fs)) (F : Fds fs.toList 0 α) (hc : Try.prog.cellsOf t = F.n) : Rd t α where
  n := F.n
  rd := F.rd
  size := F.size
  cells := hc
  op {H enc W base sp held fuel cs x} h := by
    obtain ⟨ys, n', -, rfl, hcl, hyl, hf⟩ := DataW.trod_struct ht h
    obtain ⟨a, ha, hs⟩ := F.op (cs := cs) (xs := ys) (by simpa using hyl) (by omega) (fun i f hi => hf i f (by simpa using hi))
    rw [List.drop_zero, List.take_of_length_le (by omega)] at ha
    refine ⟨a, ha, ?_⟩
    simp only [Rows.uptoBulk]
    omega
  len h := F.len h
  keep h k := F.keep h k
end Go.Proofs.Yteokkpmndfekoaa
