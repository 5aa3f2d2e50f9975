/- Hop and Aged: what a change of a block's data makes of a bundle; what they answer. Plain lists, no program. -/
import Derived.Test.YteokkpmndfekoaaBT
import Derived.Test.YteokkpmndfekoaaBM
namespace Go.Proofs.Yteokkpmndfekoaa

def newL (l : List Blk) (i : Nat) (d : List UInt8) : List Blk := l.modify i fun x => { x with da := d }
def newB (b : Bdl) (i : Nat) (d : List UInt8) : Bdl := { b with bl := newL b.bl i d }
theorem newL_len (l : List Blk) (i : Nat) (d : List UInt8) : (newL l i d).length = l.length := by simp [newL]
theorem newL_ty (l : List Blk) (i : Nat) (d : List UInt8) : (newL l i d).map Blk.ty = l.map Blk.ty := by
  refine List.ext_getElem (by simp [newL]) fun j h1 h2 => ?_
  simp [newL, List.getElem_modify]
  split <;> rfl
theorem newL_nu (l : List Blk) (i : Nat) (d : List UInt8) : (newL l i d).map Blk.nu = l.map Blk.nu := by
  refine List.ext_getElem (by simp [newL]) fun j h1 h2 => ?_
  simp [newL, List.getElem_modify]
  split <;> rfl
theorem fitsB_map {x y : Blk} {a a' : List Blk} (h1 : x.ty = y.ty) (h2 : x.nu = y.nu) (h3 : x.fl = y.fl) (ht : a.map Blk.ty = a'.map Blk.ty) (hn : a.map Blk.nu = a'.map Blk.nu) : fitsB x a = fitsB y a' := by
  have e1 : ∀ t, (a.any fun x => decide (x.ty = t)) = (a'.any fun x => decide (x.ty = t)) := fun t => by
    have := congrArg (fun l => l.any (fun z => decide (z = t))) ht
    simpa [List.any_map, Function.comp_def] using this
  have e2 : ∀ t, (a.any fun x => decide (x.nu = t)) = (a'.any fun x => decide (x.nu = t)) := fun t => by
    have := congrArg (fun l => l.any (fun z => decide (z = t))) hn
    simpa [List.any_map, Function.comp_def] using this
  unfold fitsB headed tyBad nuBad
  rw [h1, h2, h3, e1, e2]
theorem blksB_all (l : List Blk) : blksB l 0 = true ↔ ∀ j (h : j < l.length), blkB l[j] (l.take j) = true := by
  unfold blksB
  rw [List.all_eq_true]
  constructor
  · intro h j hj
    have := h j (by rw [List.mem_range']; exact ⟨j, by omega, by omega⟩)
    simpa [List.getD, hj] using this
  · intro h j hj
    rw [List.mem_range'] at hj
    obtain ⟨k, h1, h2⟩ := hj
    have hj : j < l.length := by omega
    simpa [List.getD, hj] using h j hj
theorem good_new {b : Bdl} {i : Nat} {d : List UInt8} (hi : i < b.bl.length) (hg : good b = true) (hd : d.length ≤ 64) (hh : holds b.bl[i].ty d = true) : good (newB b i d) = true := by
  unfold good at hg ⊢
  rw [Bool.and_eq_true] at hg ⊢
  obtain ⟨h1, h2⟩ := hg
  refine ⟨?_, ?_⟩
  · unfold headB newB at *
    dsimp only
    rw [newL_len]
    exact h1
  · rw [blksB_all] at h2 ⊢
    intro j hj
    have hj' : j < b.bl.length := by have := hj; unfold newB at this; rw [newL_len] at this; exact this
    have h3 := h2 j hj'
    unfold blkB at h3 ⊢
    rw [Bool.and_eq_true] at h3 ⊢
    have hx : (newB b i d).bl[j] = if i = j then { b.bl[j] with da := d } else b.bl[j] := by
      simp [newB, newL, List.getElem_modify]
    refine ⟨?_, ?_⟩
    · rw [← h3.1]
      refine fitsB_map ?_ ?_ ?_ ?_ ?_
      · rw [hx]; split <;> rfl
      · rw [hx]; split <;> rfl
      · rw [hx]; split <;> rfl
      · rw [List.map_take, List.map_take]; unfold newB; dsimp only; rw [newL_ty]
      · rw [List.map_take, List.map_take]; unfold newB; dsimp only; rw [newL_nu]
    · rw [hx]
      split
      · rename_i e
        subst e
        unfold tellsB
        dsimp only
        rw [Bool.and_eq_true]
        exact ⟨by simpa using hd, hh⟩
      · exact h3.2
theorem tells_at {b : Bdl} (hg : good b = true) {i : Nat} (hi : i < b.bl.length) : b.bl[i].da.length ≤ 64 ∧ holds b.bl[i].ty b.bl[i].da = true := by
  unfold good at hg
  rw [Bool.and_eq_true, blksB_all] at hg
  have h := hg.2 i hi
  unfold blkB tellsB at h
  simp only [Bool.and_eq_true, decide_eq_true_eq] at h
  exact h.2
theorem kind_first {b : Bdl} (hg : good b = true) {k : Nat} (hk : known k = true) {p q : Nat} (hp : p < b.bl.length) (hq : q < b.bl.length) (h1 : b.bl[p].ty = k) (h2 : b.bl[q].ty = k) : ¬ p < q := by
  intro hlt
  unfold good at hg
  rw [Bool.and_eq_true, blksB_all] at hg
  have h := hg.2 q hq
  unfold blkB fitsB headed at h
  rw [Bool.and_eq_true, decide_eq_true_eq] at h
  have hb : tyBad b.bl[q].ty (b.bl.take q) = true := by
    unfold tyBad
    rw [h2, hk]
    have : ((b.bl.take q).any fun x => decide (x.ty = k)) = true := by
      rw [List.any_eq_true]
      refine ⟨b.bl[p], ?_, by simpa using h1⟩
      rw [List.mem_take_iff_getElem]
      exact ⟨p, by omega, rfl⟩
    rw [this]
    simp
  rw [if_pos hb] at h
  simp at h
theorem kind_one {b : Bdl} (hg : good b = true) {k : Nat} (hk : known k = true) {p q : Nat} (hp : p < b.bl.length) (hq : q < b.bl.length) (h1 : b.bl[p].ty = k) (h2 : b.bl[q].ty = k) : p = q := by
  have := kind_first hg hk hp hq h1 h2
  have := kind_first hg hk hq hp h2 h1
  omega

theorem rEnd_out {xs : List UInt8} {a : Nat} (h : xs.length ≤ a) : rEnd xs a 0 = 0 := by
  unfold rEnd
  rw [if_neg (by omega)]
theorem one_sd {m : Nat} (hm : m ≤ 281474976710655) : one (sd m) = (m, true) := by
  have h := rNum_at (xs := sd m) (r := []) (a := 0) (by omega) hm (by simp)
  unfold one
  rw [h]
  dsimp only
  rw [rEnd_out (by omega)]
  rfl
theorem two_sd {l m : Nat} (hl : l ≤ 281474976710655) (hm : m ≤ 281474976710655) : two (sd l ++ sd m) = (l, m, true) := by
  have h := rNum_at (xs := sd l ++ sd m) (r := sd m) (a := 0) (by omega) hl (by simp)
  have h2 := rNum_at (xs := sd l ++ sd m) (r := []) (a := 0 + (sd l).length) (by omega) hm (by simp)
  unfold two
  rw [h]
  dsimp only
  rw [h2]
  dsimp only
  rw [rEnd_out (by simp)]
  rfl
theorem holds_age {m : Nat} (hm : m ≤ 281474976710655) : holds 7 (sd m) = true := by
  unfold holds
  rw [if_neg (by omega), if_pos rfl, one_sd hm]
theorem holds_hop {xs : List UInt8} (h : holds 10 xs = true) (hne : (two xs).2.1 ≠ (two xs).1) : holds 10 (sd (two xs).1 ++ sd ((two xs).2.1 + 1)) = true := by
  unfold holds at h ⊢
  rw [if_neg (by omega), if_neg (by omega), if_pos rfl] at h ⊢
  unfold hopB at h
  simp only [Bool.and_eq_true, decide_eq_true_eq] at h
  obtain ⟨⟨⟨h1, h2⟩, h3⟩, h4⟩ := h
  unfold hopB
  rw [two_sd (by omega) (by omega)]
  simp only [Bool.and_eq_true, decide_eq_true_eq]
  refine ⟨⟨⟨trivial, h2⟩, h3⟩, ?_⟩
  omega

/-- the answer of a change: the block of kind k, its data made anew -/
def chV (b : Bdl) (i : Option Nat) (bad : List UInt8 → Bool) (mk : List UInt8 → List UInt8) : Bdl × Int :=
  if valE b ≠ 0 then (noBdl, valE b) else match i with
    | none => (noBdl, 4)
    | some i => if bad (b.bl.getD i ⟨0, 0, 0, []⟩).da then (noBdl, 6)
      else if 1024 < (laid (newB b i (mk (b.bl.getD i ⟨0, 0, 0, []⟩).da))).length then (noBdl, 81)
      else (newB b i (mk (b.bl.getD i ⟨0, 0, 0, []⟩).da), 0)
theorem valE_zero {b : Bdl} (h : valE b = 0) : good b = true ∧ (laid b).length ≤ 1024 := by
  unfold valE at h
  split at h
  · rename_i hg
    split at h
    · simp at h
    · exact ⟨hg, by omega⟩
  · simp at h
theorem valE_new {b : Bdl} {i : Nat} {d : List UInt8} (hi : i < b.bl.length) (hg : good b = true) (hd : d.length ≤ 64) (hh : holds b.bl[i].ty d = true) : valE (newB b i d) = if 1024 < (laid (newB b i d)).length then 81 else 0 := by
  unfold valE
  rw [if_pos (good_new hi hg hd hh)]
def hopBad (xs : List UInt8) : Bool := decide ((two xs).2.1 = (two xs).1)
def hopNew (xs : List UInt8) : List UInt8 := sd (two xs).1 ++ sd ((two xs).2.1 + 1)
def ageBad (t : Nat) (xs : List UInt8) : Bool := decide (281474976710655 - (one xs).1 < t)
def ageNew (t : Nat) (xs : List UInt8) : List UInt8 := sd ((one xs).1 + t)
theorem one_most' (xs : List UInt8) : (one xs).1 ≤ 281474976710655 := rNum_most _ _ _ _
theorem two_most' (xs : List UInt8) : (two xs).1 ≤ 281474976710655 ∧ (two xs).2.1 ≤ 281474976710655 := ⟨rNum_most _ _ _ _, rNum_most _ _ _ _⟩
theorem hopNew_holds {xs : List UInt8} (h : holds 10 xs = true) (hb : hopBad xs = false) : holds 10 (hopNew xs) = true ∧ (hopNew xs).length ≤ 64 := by
  obtain ⟨m1, m2⟩ := two_most' xs
  refine ⟨holds_hop h (by unfold hopBad at hb; simpa using hb), ?_⟩
  unfold hopNew
  rw [List.length_append]
  have := sd_length (two xs).1 (by omega)
  have := sd_length ((two xs).2.1 + 1) (by omega)
  omega
theorem ageNew_holds {xs : List UInt8} {t : Nat} (hb : ageBad t xs = false) : holds 7 (ageNew t xs) = true ∧ (ageNew t xs).length ≤ 64 := by
  have m := one_most' xs
  unfold ageBad at hb
  rw [decide_eq_false_iff_not] at hb
  refine ⟨holds_age (by omega), ?_⟩
  unfold ageNew
  have := sd_length ((one xs).1 + t) (by omega)
  omega
/-! ### BundleBack: what is written is read back -/
theorem laid_pos (b : Bdl) : 0 < (laid b).length := by
  unfold laid headL
  simp only [List.length_append, List.length_cons]
  omega
theorem enc_laid {b : Bdl} (h : valE b = 0) : encB b = laid b := by
  unfold encB
  rw [if_pos h]
theorem dec_back {b : Bdl} (h : valE b = 0) : decE (laid b) = 0 ∧ decB (laid b) = b := by
  obtain ⟨hg, hl⟩ := valE_zero h
  have hd := dec_laid hg []
  rw [List.append_nil, if_pos rfl] at hd
  have hE : decE (laid b) = 0 := by
    unfold decE
    rw [if_neg (by omega), hd]
  refine ⟨hE, ?_⟩
  unfold decB
  rw [if_pos hE, hd]
theorem dec_less {b : Bdl} (h : valE b = 0) : decE (laid b).dropLast = 10 := by
  obtain ⟨hg, hl⟩ := valE_zero h
  unfold decE
  rw [if_neg (by rw [List.length_dropLast]; omega), dec_cut hg]
theorem dec_more {b : Bdl} (h : valE b = 0) : decE (laid b ++ [0]) = if (laid b).length = 1024 then 81 else 11 := by
  obtain ⟨hg, hl⟩ := valE_zero h
  have hd := dec_laid hg [0]
  rw [if_neg (by simp)] at hd
  unfold decE
  rw [List.length_append, List.length_singleton, hd]
  by_cases e : (laid b).length = 1024
  · rw [if_pos (by omega), if_pos e]
  · rw [if_neg (by omega), if_neg e]
theorem dec_good {xs : List UInt8} (h : decE xs = 0) : valE (decB xs) = 0 ∧ encB (decB xs) = xs := by
  have hb : decB xs = (decAll xs).1 := by
    unfold decB
    rw [if_pos h]
  unfold decE at h
  split at h
  · simp at h
  · rename_i hl
    obtain ⟨hg, hx⟩ := dec_inv h
    have hv : valE (decAll xs).1 = 0 := by
      unfold valE
      rw [if_pos hg, hx, if_neg hl]
    rw [hb]
    exact ⟨hv, (enc_laid hv).trans hx⟩
end Go.Proofs.Yteokkpmndfekoaa
