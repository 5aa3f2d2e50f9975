/- BundleTravels, BundleEnds: a wrapped bundle on its way: n hops, an age. Plain lists, no program. -/
import Derived.Test.YteokkpmndfekoaaGK
import Derived.Test.YteokkpmndfekoaaFF
import Derived.Test.YteokkpmndfekoaaGN
namespace Go.Proofs.Yteokkpmndfekoaa

abbrev mxN : Nat := 281474976710655
/-- a bundle behind n hops, of an age -/
def trB (W : Bdl) (n a : Nat) : Bdl := { W with bl := [⟨10, 2, 0, sd 8 ++ sd n⟩, ⟨7, 3, 0, sd a⟩] }
structure OkW (W : Bdl) : Prop where
  fl : W.fl ≤ 7
  nn : ∀ z ∈ nine W, z ≤ mxN
  pl : W.pl.length ≤ 512
theorem nine_len (W : Bdl) : (nine W).length = 9 := rfl
theorem trB_good {W : Bdl} (h : OkW W) {n a : Nat} (hn : n ≤ 8) (ha : a ≤ mxN) : good (trB W n a) = true := by
  rw [good_iff]
  refine ⟨h.fl, h.nn, by simp [trB], h.pl, ?_⟩
  have h8 := sd_length 8 (by omega)
  have hnl := sd_length n (by omega)
  have hal := sd_length a (by unfold mxN at ha; omega)
  have hb : ∀ j (hj : j < (trB W n a).bl.length), blkB (trB W n a).bl[j] ((trB W n a).bl.take j) = true := fun j hj => by
    rw [blkB_iff]
    have hj2 : j < 2 := hj
    rcases j with _ | _ | j
    · refine ⟨by simp [trB, tyBad_nil], by simp [trB, nuBad_nil], by simp [trB], by simp [trB]; omega, ?_⟩
      show holds 10 (sd 8 ++ sd n) = true
      unfold holds
      rw [if_neg (by omega), if_neg (by omega), if_pos rfl]
      unfold hopB
      rw [two_sd (by omega) (by omega)]
      simp [hn]
    · refine ⟨?_, ?_, by simp [trB], by simp [trB]; omega, ?_⟩
      · show tyBad 7 [⟨10, 2, 0, sd 8 ++ sd n⟩] = false
        simp [tyBad, known]
      · show nuBad 3 [⟨10, 2, 0, sd 8 ++ sd n⟩] = false
        simp [nuBad]
      · exact holds_age ha
    · omega
  exact (blksB_all _).2 hb
theorem flat_le : ∀ (l : List Nat), (∀ z ∈ l, z ≤ mxN) → ((l.map sd).flatten).length ≤ 7 * l.length
  | [], _ => by simp
  | z :: r, h => by
    have ih := flat_le r (fun y hy => h y (List.mem_cons_of_mem _ hy))
    have hz : (sd z).length ≤ 7 := by
      have h7 : z / 128 < 128 ^ 6 := by
        have : (128 : Nat) ^ 6 = 4398046511104 := by decide
        have := h z (List.mem_cons_self ..)
        unfold mxN at this
        omega
      have := sdH_length 6 _ h7
      simp [sd]
      omega
    simp only [List.map_cons, List.flatten_cons, List.length_append, List.length_cons]
    omega
theorem trB_val {W : Bdl} (h : OkW W) {n a : Nat} (hn : n ≤ 8) (ha : a ≤ mxN) : valE (trB W n a) = 0 := by
  unfold valE
  rw [if_pos (trB_good h hn ha), if_neg ?_]
  have h9 := flat_le (nine W) h.nn
  rw [nine_len] at h9
  have s1 : ∀ z, z ≤ mxN → (sd z).length ≤ 7 := fun z hz => by have := flat_le [z] (by simpa using hz); simpa using this
  have hf := s1 W.fl (by have := h.fl; unfold mxN; omega)
  have f1 := s1 2 (by unfold mxN; omega)
  have f2 := s1 10 (by unfold mxN; omega)
  have f3 := s1 0 (by unfold mxN; omega)
  have f4 := s1 8 (by unfold mxN; omega)
  have f5 := s1 n (by unfold mxN; omega)
  have f6 := s1 7 (by unfold mxN; omega)
  have f7 := s1 3 (by unfold mxN; omega)
  have f8 := s1 a ha
  have f9 := s1 (sd 8 ++ sd n).length (by simp only [List.length_append]; unfold mxN; omega)
  have f10 := s1 (sd a).length (by unfold mxN; omega)
  have f11 := s1 W.pl.length (by have := h.pl; unfold mxN; omega)
  have hp := h.pl
  have e : (laid (trB W n a)).length = 1 + (sd W.fl).length + (((nine W).map sd).flatten).length + (sd 2).length + ((blkL ⟨10, 2, 0, sd 8 ++ sd n⟩).length + (blkL ⟨7, 3, 0, sd a⟩).length) + ((sd W.pl.length).length + W.pl.length) := by
    unfold laid
    rw [headL_eq]
    simp only [trB, List.length_append, List.map_cons, List.map_nil, List.flatten_cons, List.flatten_nil, lb, List.length_cons, List.length_nil, Nat.reduceAdd, Nat.zero_add]
    have : nine { W with bl := [⟨10, 2, 0, sd 8 ++ sd n⟩, ⟨7, 3, 0, sd a⟩] } = nine W := rfl
    rw [this]
    omega
  rw [e]
  simp only [blkL, lb, List.length_append] at f9 ⊢
  omega
theorem trB_hop {W : Bdl} (h : OkW W) {n a : Nat} (hn : n ≤ 8) (ha : a ≤ mxN) : chV (trB W n a) (fstK (trB W n a).bl 10) hopBad hopNew = if n = 8 then (noBdl, 6) else (trB W (n + 1) a, 0) := by
  have hv := trB_val h hn ha
  have hf : fstK (trB W n a).bl 10 = some 0 := rfl
  have h2 : two (sd 8 ++ sd n) = (8, n, true) := two_sd (by omega) (by omega)
  rw [hf]
  by_cases h8 : n = 8
  · rw [if_pos h8]
    refine chV_bad hv (by simp [trB]) ?_
    show hopBad (sd 8 ++ sd n) = true
    unfold hopBad
    rw [h2]
    simp [h8]
  · rw [if_neg h8]
    have hnew : newB (trB W n a) 0 (hopNew (sd 8 ++ sd n)) = trB W (n + 1) a := by
      unfold hopNew
      rw [h2]
      rfl
    have := chV_ok (b := trB W n a) (q := 0) (bad := hopBad) (mk := hopNew) hv (by simp [trB]) (by show hopBad (sd 8 ++ sd n) = false; unfold hopBad; rw [h2]; simpa using h8) (by
      show ¬ 1024 < (laid (newB (trB W n a) 0 (hopNew (sd 8 ++ sd n)))).length
      rw [hnew]
      have := (valE_zero (trB_val h (n := n + 1) (by omega) ha)).2
      omega)
    rw [this]
    show (newB (trB W n a) 0 (hopNew (sd 8 ++ sd n)), (0 : Int)) = _
    rw [hnew]
theorem trB_age {W : Bdl} (h : OkW W) {n a t : Nat} (hn : n ≤ 8) (ha : a ≤ mxN) : chV (trB W n a) (fstK (trB W n a).bl 7) (ageBad t) (ageNew t) = if mxN - a < t then (noBdl, 6) else (trB W n (a + t), 0) := by
  have hv := trB_val h hn ha
  have hf : fstK (trB W n a).bl 7 = some 1 := rfl
  have h1 : one (sd a) = (a, true) := one_sd ha
  rw [hf]
  by_cases hb : mxN - a < t
  · rw [if_pos hb]
    refine chV_bad hv (by simp [trB]) ?_
    show ageBad t (sd a) = true
    unfold ageBad
    rw [h1]
    simpa using hb
  · rw [if_neg hb]
    have hnew : newB (trB W n a) 1 (ageNew t (sd a)) = trB W n (a + t) := by
      unfold ageNew
      rw [h1]
      rfl
    have := chV_ok (b := trB W n a) (q := 1) (bad := ageBad t) (mk := ageNew t) hv (by simp [trB]) (by show ageBad t (sd a) = false; unfold ageBad; rw [h1]; simpa using hb) (by
      show ¬ 1024 < (laid (newB (trB W n a) 1 (ageNew t (sd a)))).length
      rw [hnew]
      have := (valE_zero (trB_val h hn (a := a + t) (by omega))).2
      omega)
    rw [this]
    show (newB (trB W n a) 1 (ageNew t (sd a)), (0 : Int)) = _
    rw [hnew]
theorem wrap_tr {s : Int} {ti sq li fr to : Nat} {xs : List UInt8} {nw : Bool} (h : wrapF s ti sq li fr to xs = 0) :
    wrapB s ti sq li fr to xs nw = trB (wrapD s ti sq li fr to xs nw) 0 0 ∧ OkW (wrapD s ti sq li fr to xs nw) ∧ 0 ≤ s ∧ s < 8 := by
  have hw : wrapB s ti sq li fr to xs nw = wrapD s ti sq li fr to xs nw := by
    unfold wrapB
    rw [if_pos h]
  unfold wrapF at h
  split at h
  · rename_i hc
    split at h
    · simp at h
    · obtain ⟨h1, h2, h3⟩ := hc
      unfold fitsW at h1
      simp only [Bool.and_eq_true, decide_eq_true_eq] at h1
      refine ⟨?_, ⟨?_, ?_, ?_⟩, h1.1.1.1.1, h1.1.1.1.2⟩
      · rw [hw]
        unfold trB wrapD
        rw [show sd 8 ++ sd 0 = [8, 0] by decide +kernel, show sd 0 = [0] by decide +kernel]
      · unfold wrapD
        dsimp only
        split <;> omega
      · intro z hz
        unfold maxN at *
        have hs : s.toNat ≤ mxN := by unfold mxN; omega
        simp only [nine, wrapD, List.mem_cons, List.not_mem_nil, or_false] at hz
        unfold mxN at *
        rcases hz with rfl | rfl | rfl | rfl | rfl | rfl | rfl | rfl | rfl <;> omega
      · show xs.length ≤ 512
        omega
  · simp at h
theorem tr_open {s : Int} {ti sq li fr to : Nat} {xs : List UInt8} {nw : Bool} (hW : OkW (wrapD s ti sq li fr to xs nw)) (_h0 : 0 ≤ s) (h8 : s < 8) {n a : Nat} (hn : n ≤ 8) (ha : a ≤ mxN) :
    opE (trB (wrapD s ti sq li fr to xs nw) n a) = 0 ∧ opF (trB (wrapD s ti sq li fr to xs nw) n a) = ⟨s.toNat, ti, sq, li, xs, fr, nw⟩ := by
  have h : opE (trB (wrapD s ti sq li fr to xs nw) n a) = 0 := by
    unfold opE
    rw [if_pos (trB_val hW hn ha), if_neg ?_]
    simp only [trB, wrapD]
    cases nw <;> simp <;> omega
  refine ⟨h, ?_⟩
  unfold opF
  rw [if_pos h]
  simp only [trB, wrapD]
  cases nw <;> simp
/-- the digits, read one by one -/
def digs (xs : List UInt8) : Nat := xs.foldl (fun n x => n * 128 + x.toNat % 128) 0
theorem digs_app (xs : List UInt8) (y : UInt8) : digs (xs ++ [y]) = digs xs * 128 + y.toNat % 128 := by simp [digs]
theorem digs_sdH (n : Nat) : digs (sdH n) = n := by
  induction n using Nat.strongRecOn with
  | ind n ih =>
    rcases Nat.eq_zero_or_pos n with h0 | h0
    · subst h0
      rw [sdH_zero]
      rfl
    · rw [sdH_pos n h0, digs_app, ih (n / 128) (by omega)]
      have : (UInt8.ofNat (n % 128 + 128)).toNat = n % 128 + 128 := by
        rw [UInt8.toNat_ofNat']
        omega
      rw [this]
      omega
theorem digs_sd (n : Nat) : digs (sd n) = n := by
  unfold sd
  rw [digs_app, digs_sdH]
  have : (UInt8.ofNat (n % 128)).toNat = n % 128 := by
    rw [UInt8.toNat_ofNat']
    omega
  rw [this]
  omega
theorem digs_take {xs : List UInt8} {q : Nat} (h : q < xs.length) : digs (xs.take (q + 1)) = digs (xs.take q) * 128 + xs[q].toNat % 128 := by
  rw [List.take_succ_eq_append_getElem h, digs_app]
theorem digs_le (xs : List UInt8) : ∀ (k q : Nat), xs.length - q = k → digs (xs.take q) ≤ digs xs
  | 0, q, h => by
    rw [List.take_of_length_le (by omega)]
    exact Nat.le_refl _
  | k + 1, q, h => by
    have h1 := digs_le xs k (q + 1) (by omega)
    rw [digs_take (by omega)] at h1
    omega
theorem sd_len8 {a : Nat} (h : a ≤ mxN) : (sd a).length ≤ 7 := by
  have := flat_le [a] (by simpa using h)
  simpa using this
end Go.Proofs.Yteokkpmndfekoaa
