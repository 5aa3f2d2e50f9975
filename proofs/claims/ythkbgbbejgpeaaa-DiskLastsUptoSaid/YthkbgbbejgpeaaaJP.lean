/- A keeper's book of a disk: the plain law. -/
import Derived.Test.YthkbgbbejgpeaaaJL
namespace Go.Proofs.Ythkbgbbejgpeaaa
open Go Go.RowKit
set_option maxRecDepth 100000

/-- the text of a number -/
def textZ (z : Int) : List UInt8 := if z ≤ 0 then zsec else fillB z.toNat
def wantZ (z : Int) : List UInt8 × Nat := if z < 0 then ([], 40) else (textZ z, 0)
theorem textZ_len (z : Int) : (textZ z).length = 128 := by
  unfold textZ
  split
  · exact zsec_len
  · exact fillB_len _
def lastZ (l : List Int) : Int := l.getLast?.getD 0
/-- what may stand in a sector, by the book -/
def EntOk (d : Dk) (i : Nat) (l : List Int) (next : Nat) : Prop :=
  ∃ m0 ms, l = m0 :: ms ∧ -1 ≤ m0 ∧ m0 < next ∧ d.to i = decide (m0 < 0) ∧ d.du i = textZ m0 ∧ d.ca i = ms.map textZ ∧ ∀ m ∈ ms, 0 < m ∧ m < next
structure BkOk (d : Dk) (may : List (List Int)) (next : Nat) : Prop where
  n : may.length = d.n
  pos : 1 ≤ d.n
  nx : 1 ≤ next
  off : d.off = false
  fuse : d.fuse = -1
  each : ∀ i (h : i < may.length), EntOk d i may[i] next
theorem EntOk.pos {d : Dk} {i next : Nat} {l : List Int} (h : EntOk d i l next) : 0 < l.length := by
  obtain ⟨m0, ms, rfl, _⟩ := h
  simp
theorem EntOk.ca_len {d : Dk} {i next : Nat} {l : List Int} (h : EntOk d i l next) : (d.ca i).length = l.length - 1 := by
  obtain ⟨m0, ms, rfl, -, -, -, -, hc, -⟩ := h
  rw [hc]
  simp
theorem EntOk.nil {d : Dk} {i next : Nat} {l : List Int} (h : EntOk d i l next) : d.ca i = [] ↔ l.length = 1 := by
  have h1 := h.ca_len
  have h2 := h.pos
  constructor
  · intro e
    rw [e] at h1
    simp at h1
    omega
  · intro e
    exact List.eq_nil_of_length_eq_zero (by omega)
/-- a sector reads as its last text -/
theorem EntOk.read {d : Dk} {i next : Nat} {l : List Int} (h : EntOk d i l next) (hi : i < d.n) (ho : d.off = false) : readD d (i : Int) = wantZ (lastZ l) := by
  obtain ⟨m0, ms, rfl, h0, h1, ht, hd, hc, hm⟩ := h
  by_cases hms : ms = []
  · subst hms
    rw [read_plain d i hi ho (by rw [hc]; rfl), ht, hd]
    have e : lastZ [m0] = m0 := rfl
    rw [e]
    unfold wantZ
    by_cases hm0 : m0 < 0 <;> simp [hm0]
  · obtain ⟨ini, x, hx⟩ : ∃ ini x, ms = ini ++ [x] := ⟨ms.dropLast, ms.getLast hms, (List.dropLast_concat_getLast hms).symm⟩
    have hx0 := hm x (by rw [hx]; simp)
    rw [read_last d i (textZ x) (ini.map textZ) hi ho (by rw [hc, hx]; simp)]
    have e : lastZ (m0 :: ms) = x := by
      unfold lastZ
      rw [hx, ← List.cons_append, List.getLast?_concat]
      rfl
    rw [e]
    unfold wantZ
    rw [if_neg (by omega)]
theorem new_book (n : Nat) (h : 1 ≤ n) : BkOk (newD n) (List.replicate n [0]) 1 :=
  ⟨by simp [newD], h, Nat.le_refl _, rfl, rfl, fun i hi => ⟨0, [], by simp, by omega, by omega, rfl, rfl, rfl, fun m hm => by cases hm⟩⟩
/-- a text more -/
theorem BkOk.write {d : Dk} {may : List (List Int)} {next : Nat} (h : BkOk d may next) (i : Nat) (hi : i < may.length) (hn : 1 ≤ next) :
    ∃ d', writeD d (i : Int) (fillB next) = (0, d') ∧ BkOk d' (may.set i (may[i] ++ [(next : Int)])) (next + 1) := by
  have hin : i < d.n := by rw [← h.n]; exact hi
  refine ⟨_, write_yes d i (fillB next) hin (fillB_len next) h.off h.fuse, ⟨by simpa using h.n, h.pos, by omega, h.off, h.fuse, fun j hj => ?_⟩⟩
  have hj' : j < may.length := by simpa using hj
  obtain ⟨m0, ms, he, h0, h1, ht, hd, hc, hm⟩ := h.each j hj'
  by_cases hji : j = i
  · subst hji
    refine ⟨m0, ms ++ [(next : Int)], ?_, h0, by omega, ht, hd, ?_, fun m hmm => ?_⟩
    · rw [List.getElem_set_self, he]; rfl
    · simp only [upd_same]
      rw [hc, List.map_append]
      congr 1
      simp only [List.map_cons, List.map_nil, textZ]
      rw [if_neg (by omega)]
      rfl
    · rcases List.mem_append.1 hmm with hmm | hmm
      · have := hm m hmm; omega
      · have : m = next := by simpa using hmm
        omega
  · refine ⟨m0, ms, ?_, h0, by omega, ht, hd, ?_, fun m hmm => ?_⟩
    · rw [List.getElem_set_ne (Ne.symm hji), he]
    · simp only [upd_ne _ _ hji]
      exact hc
    · have := hm m hmm; omega
/-- all is durable -/
theorem BkOk.flush {d : Dk} {may : List (List Int)} {next : Nat} (h : BkOk d may next) : ∃ d', flushD d = (0, d') ∧ BkOk d' (may.map fun l => [lastZ l]) next := by
  have hg : goesD d = (true, d) := by simp [goesD, h.off, h.fuse]
  have hf : (flushD d).1 = 0 := by unfold flushD; rw [hg]; rfl
  have hca : (flushD d).2.ca = fun _ => [] := by unfold flushD; rw [hg]; rfl
  have hoff : (flushD d).2.off = false ∧ (flushD d).2.fuse = -1 := by unfold flushD; rw [hg]; exact ⟨h.off, h.fuse⟩
  refine ⟨(flushD d).2, by rw [← hf], ⟨by rw [flush_n]; simpa using h.n, by rw [flush_n]; exact h.pos, h.nx, hoff.1, hoff.2, fun j hj => ?_⟩⟩
  have hj' : j < may.length := by simpa using hj
  have hjn : j < d.n := by rw [← h.n]; exact hj'
  obtain ⟨m0, ms, he, h0, h1, ht, hd, hc, hm⟩ := h.each j hj'
  obtain ⟨f1, f2⟩ := flush_at d j (by rw [hg]) hjn
  by_cases hms : ms = []
  · subst hms
    refine ⟨m0, [], ?_, h0, h1, ?_, ?_, by rw [hca]; rfl, fun m hmm => by cases hmm⟩
    · simp [he, lastZ]
    · rw [f2, if_pos (by rw [hc]; rfl), ht]
    · rw [f1, hc, hd]; rfl
  · obtain ⟨ini, x, hx⟩ : ∃ ini x, ms = ini ++ [x] := ⟨ms.dropLast, ms.getLast hms, (List.dropLast_concat_getLast hms).symm⟩
    have hx0 := hm x (by rw [hx]; simp)
    have e : lastZ (m0 :: ms) = x := by
      unfold lastZ
      rw [hx, ← List.cons_append, List.getLast?_concat]
      rfl
    refine ⟨x, [], ?_, by omega, by omega, ?_, ?_, by rw [hca]; rfl, fun m hmm => by cases hmm⟩
    · rw [List.getElem_map, he, e]
    · rw [f2, if_neg (by rw [hc, hx]; simp)]
      simp
      omega
    · rw [f1, hc, hx]
      simp
/-- what a choice leaves -/
def chosenZ (l : List Int) (c : Int) : Int := if c < 0 ∨ (l.length : Int) ≤ c then -1 else l.getD c.toNat 0
def crB : List (List Int) → List Int → Nat → List (List Int)
  | [], _, _ => []
  | l :: r, ch, k => if l.length = 1 then l :: crB r ch k else [chosenZ l (ch.getD k 0)] :: crB r ch (k + 1)
theorem crB_length : ∀ (may : List (List Int)) (ch : List Int) (k : Nat), (crB may ch k).length = may.length
  | [], _, _ => rfl
  | l :: r, ch, k => by
    unfold crB
    split <;> simp [crB_length r]
def cntB (may : List (List Int)) (i : Nat) : Nat := ((may.take i).filter fun l => decide (l.length ≠ 1)).length
theorem crB_at : ∀ (may : List (List Int)) (ch : List Int) (k i : Nat) (h : i < may.length), (crB may ch k)[i]'(by rw [crB_length]; exact h) = if may[i].length = 1 then may[i] else [chosenZ may[i] (ch.getD (k + cntB may i) 0)]
  | l :: r, ch, k, 0, _ => by
    unfold crB
    split
    · rename_i h; simp [h]
    · rename_i h; simp [h, cntB]
  | l :: r, ch, k, i + 1, h => by
    have hi : i < r.length := by simpa using h
    unfold crB
    split
    · rename_i hl
      simp only [List.getElem_cons_succ]
      rw [crB_at r ch k i hi]
      have : cntB (l :: r) (i + 1) = cntB r i := by simp [cntB, hl]
      rw [this]
    · rename_i hl
      simp only [List.getElem_cons_succ]
      rw [crB_at r ch (k + 1) i hi]
      have : cntB (l :: r) (i + 1) = cntB r i + 1 := by simp [cntB, hl]
      rw [this]
      have e : k + 1 + cntB r i = k + (cntB r i + 1) := by omega
      rw [e]
theorem BkOk.cnt {d : Dk} {may : List (List Int)} {next : Nat} (h : BkOk d may next) : ∀ i, i ≤ may.length → cntB may i = rankD d i
  | 0, _ => rfl
  | i + 1, hi => by
    have ih := h.cnt i (by omega)
    have hil : i < may.length := by omega
    rw [rank_succ, ← ih]
    unfold cntB
    rw [List.take_succ_eq_append_getElem hil, List.filter_append, List.length_append]
    congr 1
    have he := (h.each i hil).nil
    by_cases hc : d.ca i = []
    · rw [if_pos hc]
      simp [he.1 hc]
    · rw [if_neg hc]
      have : ¬ may[i].length = 1 := fun e => hc (he.2 e)
      simp [this]
/-- behind a crash -/
theorem BkOk.crash {d : Dk} {may : List (List Int)} {next : Nat} (h : BkOk d may next) (ch : List Int) : BkOk (crashD d ch) (crB may ch 0) next := by
  refine ⟨by rw [crB_length, crashD_n]; exact h.n, by rw [crashD_n]; exact h.pos, h.nx, rfl, rfl, fun j hj => ?_⟩
  have hj' : j < may.length := by rwa [crB_length] at hj
  have hjn : j < d.n := by rw [← h.n]; exact hj'
  rw [crB_at may ch 0 j hj', Nat.zero_add, h.cnt j (by omega)]
  have hat := crash_at d ch j hjn
  have hE := h.each j hj'
  have hnil := hE.nil
  have hcl := hE.ca_len
  obtain ⟨m0, ms, he, h0, h1, ht, hd, hc, hm⟩ := hE
  generalize ch.getD (rankD d j) 0 = c at hat ⊢
  by_cases hl : may[j].length = 1
  · rw [if_pos hl]
    unfold effD at hat
    rw [if_pos (.inl (hnil.2 hl))] at hat
    injection hat with a1 a2
    have hms : ms = [] := by rw [he] at hl; simpa using hl
    subst hms
    exact ⟨m0, [], he, h0, h1, by rw [a2]; exact ht, by rw [a1]; exact hd, rfl, fun m hmm => by cases hmm⟩
  · rw [if_neg hl]
    have hne : d.ca j ≠ [] := fun e => hl (hnil.1 e)
    have hml : may[j].length = ms.length + 1 := by rw [he]; simp
    have hdl : (d.ca j).length = ms.length := by rw [hc]; simp
    unfold effD at hat
    by_cases hc0 : c = 0
    · subst hc0
      rw [if_pos (.inr rfl)] at hat
      injection hat with a1 a2
      refine ⟨m0, [], ?_, h0, h1, by rw [a2]; exact ht, by rw [a1]; exact hd, rfl, fun m hmm => by cases hmm⟩
      unfold chosenZ
      rw [if_neg (by rw [hml]; omega), he]
      rfl
    · rw [if_neg (by simp [hne, hc0])] at hat
      by_cases hcp : 0 < c ∧ c ≤ (d.ca j).length
      · rw [if_pos hcp] at hat
        injection hat with a1 a2
        obtain ⟨p, rfl⟩ : ∃ p : Nat, c = ((p + 1 : Nat) : Int) := ⟨c.toNat - 1, by omega⟩
        have hp : p < ms.length := by omega
        have hx0 := hm ms[p] (List.getElem_mem hp)
        refine ⟨ms[p], [], ?_, by omega, by omega, ?_, ?_, rfl, fun m hmm => by cases hmm⟩
        · unfold chosenZ
          rw [if_neg (by rw [hml]; omega), he]
          have e : (((p + 1 : Nat) : Int)).toNat = p + 1 := by omega
          rw [e]
          simp [hp]
        · rw [a2]
          simp
          omega
        · rw [a1, hc]
          have e : (((p + 1 : Nat) : Int)).toNat - 1 = p := by omega
          rw [e]
          simp [hp]
      · rw [if_neg hcp] at hat
        injection hat with a1 a2
        refine ⟨-1, [], ?_, by omega, by omega, by rw [a2]; rfl, by rw [a1]; rfl, rfl, fun m hmm => by cases hmm⟩
        unfold chosenZ
        rw [if_pos (by rw [hml]; omega)]
/-- what Dirty tells, by the book -/
def dirtyB (may : List (List Int)) : List Int := ((List.range may.length).filter fun i => decide (1 < (may.getD i []).length)).map fun (i : Nat) => (i : Int)
def versB (may : List (List Int)) : List Int := ((List.range may.length).filter fun i => decide (1 < (may.getD i []).length)).map fun (i : Nat) => (((may.getD i []).length - 1 : Nat) : Int)
theorem BkOk.dirty {d : Dk} {may : List (List Int)} {next : Nat} (h : BkOk d may next) : dirtyZ d = dirtyB may ∧ versZ d = versB may := by
  have e : dirtyD d = (List.range may.length).filter fun i => decide (1 < (may.getD i []).length) := by
    unfold dirtyD
    rw [← h.n]
    apply List.filter_congr
    intro i hi
    have hi' : i < may.length := by simpa using hi
    have hE := h.each i hi'
    have hg : may.getD i [] = may[i] := by simp [hi']
    have h1 := hE.pos
    have h2 := hE.nil
    rw [hg]
    by_cases hc : d.ca i = []
    · have h3 := h2.1 hc
      simp [hc, h3]
    · have h3 : ¬ may[i].length = 1 := fun e => hc (h2.2 e)
      have h4 : 1 < may[i].length := by omega
      simp [hc, h4]
  refine ⟨by unfold dirtyZ dirtyB; rw [e], ?_⟩
  unfold versZ versB
  rw [e]
  apply List.map_congr_left
  intro i hi
  have hi' : i < may.length := by simpa using (List.mem_filter.1 hi).1
  have hg : may.getD i [] = may[i] := by simp [hi']
  rw [hg, (h.each i hi').ca_len]
end Go.Proofs.Ythkbgbbejgpeaaa
