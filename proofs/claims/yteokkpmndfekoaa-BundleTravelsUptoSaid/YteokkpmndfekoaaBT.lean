/- Bundles: what was laid is read back; what is read was laid. Plain lists, no program. -/
import Derived.Test.YteokkpmndfekoaaBS
import Derived.Test.YteokkpmndfekoaaOR3
namespace Go.Proofs.Yteokkpmndfekoaa

theorem drop_at {xs p r : List UInt8} {a : Nat} (h : xs.drop a = p ++ r) : xs.drop (a + p.length) = r := by
  rw [← List.drop_drop, h, List.drop_left]
theorem rNum_at {xs r : List UInt8} {a n most : Nat} (hn : n < 18446744073709551616) (hm : n ≤ most) (h : xs.drop a = sd n ++ r) : rNum xs a 0 most = (n, a + (sd n).length, 0) := by
  rw [rNum, h, numS_sd n hn]
  simp
  omega
theorem rBytes_at {xs ys r : List UInt8} {a m : Nat} (hn : ys.length ≤ m) (hm : m < 18446744073709551616) (h : xs.drop a = lb ys ++ r) : rBytes xs a 0 (m : Int) = (ys, a + (lb ys).length, 0) := by
  have h' : xs.drop a = sd ys.length ++ (ys ++ r) := by rw [h, lb, List.append_assoc]
  rw [rBytes_of xs a m ys.length (sd ys.length).length 0 (by rw [h', numS_sd _ (by omega)]), if_neg (by simp), if_neg (by omega), if_neg (by rw [h']; simp)]
  rw [← List.drop_drop, h', List.drop_left, List.take_left]
  simp [lb, Nat.add_assoc]
theorem rBytes_short {xs ys : List UInt8} {a m : Nat} (hn : ys.length ≤ m) (hm : m < 18446744073709551616) (h : xs.drop a = (lb ys).dropLast) : rBytes xs a 0 (m : Int) = ([], a, 10) := by
  rcases List.eq_nil_or_concat ys with rfl | ⟨zs, z, rfl⟩
  · have hN : numS (xs.drop a) = (0, 0, 10) := by
      rw [h, show (lb ([] : List UInt8)).dropLast = (sd 0).dropLast by simp [lb], sd_cut 0 (by omega)]
    rw [rBytes_of xs a m 0 0 10 hN]
    simp
  · have hL : (zs.concat z).length = zs.length + 1 := by simp
    rw [hL] at hn
    have h' : xs.drop a = sd (zs.length + 1) ++ zs := by
      rw [h, lb, hL, List.concat_eq_append, ← List.append_assoc, List.dropLast_concat]
    have hN : numS (xs.drop a) = (zs.length + 1, (sd (zs.length + 1)).length, 0) := by rw [h', numS_sd _ (by omega)]
    rw [rBytes_of xs a m _ _ 0 hN, if_neg (by simp), if_neg (by omega), if_pos (by rw [h']; simp)]
theorem rWant_at {xs r : List UInt8} {a n most : Nat} (hm : n ≤ most) (hM : most ≤ 281474976710655) (h : xs.drop a = sd n ++ r) : rWant xs a 0 most = (n, a + (sd n).length, 0) := by
  unfold rWant
  rw [rNum_at (by omega) (by omega) h]
  simp
  omega
theorem decNine_at {xs r : List UInt8} : ∀ (l : List Nat) (a : Nat), (∀ z ∈ l, z ≤ 281474976710655) → xs.drop a = (l.map sd).flatten ++ r → decNine xs l.length a 0 = (l, a + ((l.map sd).flatten).length, 0)
  | [], a, _, _ => by simp [decNine]
  | z :: l, a, hz, h => by
    have h1 : xs.drop a = sd z ++ ((l.map sd).flatten ++ r) := by rw [h]; simp
    have h2 := rNum_at (most := 281474976710655) (by have := hz z (by simp); omega) (hz z (by simp)) h1
    have h3 := decNine_at l (a + (sd z).length) (fun y hy => hz y (by simp [hy])) (drop_at h1)
    show decNine xs (l.length + 1) a 0 = _
    rw [decNine, h2]
    dsimp only
    rw [h3]
    simp [Nat.add_assoc]
theorem tyBad_no {t : Nat} {ahead : List Blk} (h : tyBad t ahead = false) : 2 ≤ t ∧ t ≤ 255 := by
  unfold tyBad at h
  simp only [Bool.or_eq_false_iff, decide_eq_false_iff_not] at h
  omega
theorem nuBad_no {t : Nat} {ahead : List Blk} (h : nuBad t ahead = false) : 2 ≤ t ∧ t ≤ 255 := by
  unfold nuBad at h
  simp only [Bool.or_eq_false_iff, decide_eq_false_iff_not] at h
  omega
theorem fitsB_iff (x : Blk) (ahead : List Blk) : fitsB x ahead = true ↔ tyBad x.ty ahead = false ∧ nuBad x.nu ahead = false ∧ x.fl ≤ 255 := by
  unfold fitsB headed
  rcases hb : tyBad x.ty ahead with _ | _ <;> rcases hc : nuBad x.nu ahead with _ | _ <;> simp
theorem blkB_iff (x : Blk) (ahead : List Blk) : blkB x ahead = true ↔ tyBad x.ty ahead = false ∧ nuBad x.nu ahead = false ∧ x.fl ≤ 255 ∧ x.da.length ≤ 64 ∧ holds x.ty x.da = true := by
  unfold blkB tellsB
  simp only [Bool.and_eq_true, fitsB_iff, decide_eq_true_eq, and_assoc]
theorem decBlk_at {xs r : List UInt8} {x : Blk} {ahead : List Blk} {a : Nat} (hb : blkB x ahead = true) (h : xs.drop a = blkL x ++ r) : decBlk xs ahead a 0 = (x, a + (blkL x).length, 0) := by
  obtain ⟨h1, h2, h3, h4, h5⟩ := (blkB_iff x ahead).1 hb
  have hy := tyBad_no h1
  have hn := nuBad_no h2
  have q1 : xs.drop a = sd x.ty ++ (sd x.nu ++ (sd x.fl ++ (lb x.da ++ r))) := by rw [h, blkL]; simp [List.append_assoc]
  have q2 := drop_at q1
  have q3 := drop_at q2
  have q4 := drop_at q3
  have e1 : decT xs ahead a 0 = (x.ty, a + (sd x.ty).length, 0) := by unfold decT; rw [rNum_at (by omega) (by omega) q1]; simp [h1, rAsk]
  have e2 : decN xs ahead (a + (sd x.ty).length) 0 = (x.nu, a + (sd x.ty).length + (sd x.nu).length, 0) := by unfold decN; rw [rNum_at (by omega) (by omega) q2]; simp [h2, rAsk]
  have e3 := rWant_at (most := 255) h3 (by omega) q3
  have e4 : decD xs x.ty (a + (sd x.ty).length + (sd x.nu).length + (sd x.fl).length) 0 = (x.da, a + (sd x.ty).length + (sd x.nu).length + (sd x.fl).length + (lb x.da).length, 0) := by
    unfold decD
    rw [show (64 : Int) = ((64 : Nat) : Int) from rfl, rBytes_at h4 (by omega) q4]
    simp [h5, rAsk]
  unfold decBlk
  simp only [e1, e2, e3, e4]
  simp [blkL, Nat.add_assoc]
theorem decBlks_at {xs r : List UInt8} : ∀ (l ahead : List Blk) (a : Nat), blksB (ahead ++ l) ahead.length = true → xs.drop a = (l.map blkL).flatten ++ r → decBlks xs l.length ahead a 0 = (ahead ++ l, a + ((l.map blkL).flatten).length, 0)
  | [], ahead, a, _, _ => by simp [decBlks]
  | x :: l, ahead, a, hg, h => by
    rw [blksB_at _ _ (by simp), Bool.and_eq_true, List.take_left, show (ahead ++ x :: l)[ahead.length]'(by simp) = x by simp] at hg
    have h1 : xs.drop a = blkL x ++ ((l.map blkL).flatten ++ r) := by rw [h]; simp
    have h2 := decBlk_at hg.1 h1
    have h3 := decBlks_at l (ahead ++ [x]) (a + (blkL x).length) (by
      rw [List.append_assoc, List.singleton_append, List.length_append]
      exact hg.2) (drop_at h1)
    show decBlks xs (l.length + 1) ahead a 0 = _
    rw [decBlks_next, h2]
    dsimp only
    rw [h3]
    simp [Nat.add_assoc]
theorem decV_at {xs r : List UInt8} (h : xs = 6 :: r) : decV xs = (1, 0) := by
  subst h
  have : rTake (6 :: r) 0 0 1 = ([6], 1, 0) := by
    rw [rTake, if_neg (by simp), if_neg (by omega), if_neg (by simp; omega)]
    simp
  unfold decV
  rw [this]
  simp
def nine (b : Bdl) : List Nat := [b.e0, b.e1, b.e2, b.e3, b.e4, b.e5, b.ti, b.sq, b.li]
theorem good_iff (b : Bdl) : good b = true ↔ b.fl ≤ 7 ∧ (∀ z ∈ nine b, z ≤ 281474976710655) ∧ b.bl.length ≤ 8 ∧ b.pl.length ≤ 512 ∧ blksB b.bl 0 = true := by
  unfold good headB nine
  simp only [Bool.and_eq_true, decide_eq_true_eq, List.mem_cons, List.not_mem_nil, or_false, forall_eq_or_imp, forall_eq, and_assoc]
theorem headL_eq (b : Bdl) : headL b = [6] ++ (sd b.fl ++ (((nine b).map sd).flatten ++ sd b.bl.length)) := by
  simp [headL, nine, List.append_assoc]
/-- all but the payload -/
def frontL (b : Bdl) : List UInt8 := headL b ++ (b.bl.map blkL).flatten
theorem laid_front (b : Bdl) : laid b = frontL b ++ lb b.pl := rfl
theorem dec_front {b : Bdl} (hg : good b = true) {xs q : List UInt8} (h : xs = frontL b ++ q) : xs.drop (frontL b).length = q ∧
    decAll xs = ({ b with pl := (rBytes xs (frontL b).length 0 512).1 }, (rBytes xs (frontL b).length 0 512).2.1, rEnd xs (rBytes xs (frontL b).length 0 512).2.1 (rBytes xs (frontL b).length 0 512).2.2) := by
  obtain ⟨h1, h2, h3, h4, h5⟩ := (good_iff b).1 hg
  have q0 : xs = 6 :: (sd b.fl ++ (((nine b).map sd).flatten ++ (sd b.bl.length ++ ((b.bl.map blkL).flatten ++ q)))) := by
    rw [h, frontL, headL_eq]
    simp [List.append_assoc]
  have v := decV_at q0
  have q1 : xs.drop 1 = sd b.fl ++ (((nine b).map sd).flatten ++ (sd b.bl.length ++ ((b.bl.map blkL).flatten ++ q))) := by
    have := congrArg (List.drop 1) q0
    simpa using this
  have q2 := drop_at q1
  have q3 := drop_at q2
  have q4 := drop_at q3
  have q5 := drop_at q4
  have e1 := rWant_at (most := 7) h1 (by omega) q1
  have e2 := decNine_at (nine b) _ h2 q2
  rw [show (nine b).length = 9 from rfl] at e2
  have e3 := rWant_at (most := 8) h3 (by omega) q3
  have e4 := decBlks_at b.bl [] _ (by simpa using h5) q4
  have hl : 1 + (sd b.fl).length + (((nine b).map sd).flatten).length + (sd b.bl.length).length + ((b.bl.map blkL).flatten).length = (frontL b).length := by
    rw [frontL, headL_eq]
    simp [Nat.add_assoc, Nat.add_comm, Nat.add_left_comm]
  rw [hl] at q5 e4
  refine ⟨q5, ?_⟩
  unfold decAll
  simp only [v, e1, e2, e3, e4]
  rfl
theorem dec_laid {b : Bdl} (hg : good b = true) (ext : List UInt8) : decAll (laid b ++ ext) = (b, (laid b).length, if ext = [] then 0 else 11) := by
  have h4 := ((good_iff b).1 hg).2.2.2.1
  obtain ⟨h1, h2⟩ := dec_front hg (xs := laid b ++ ext) (q := lb b.pl ++ ext) (by rw [laid_front, List.append_assoc])
  rw [h2, show (512 : Int) = ((512 : Nat) : Int) from rfl, rBytes_at h4 (by omega) h1]
  dsimp only
  rw [show (frontL b).length + (lb b.pl).length = (laid b).length by rw [laid_front, List.length_append]]
  refine congrArg (fun z => (b, (laid b).length, z)) ?_
  unfold rEnd
  rcases ext with _ | ⟨y, r⟩
  · simp
  · simp
theorem dec_cut {b : Bdl} (hg : good b = true) : (decAll (laid b).dropLast).2.2 = 10 := by
  have h4 := ((good_iff b).1 hg).2.2.2.1
  have hne : lb b.pl ≠ [] := fun e => by have := lb_pos b.pl; rw [e] at this; simp at this
  obtain ⟨h1, h2⟩ := dec_front hg (xs := (laid b).dropLast) (q := (lb b.pl).dropLast) (by rw [laid_front, List.dropLast_append_of_ne_nil hne])
  rw [h2, show (512 : Int) = ((512 : Nat) : Int) from rfl, rBytes_short h4 (by omega) h1]
  simp [rEnd]
/-! what is read was laid -/
theorem rNum_zero {xs : List UInt8} {a : Nat} {f : Int} {most : Nat} (h : (rNum xs a f most).2.2 = 0) : f = 0 ∧ xs.take a ++ sd (rNum xs a f most).1 = xs.take (rNum xs a f most).2.1 := by
  refine ⟨?_, (rNum_over rfl).1 h⟩
  by_cases hf : f = 0
  · exact hf
  · rw [rNum, if_pos hf] at h
    exact h
theorem rWant_zero {xs : List UInt8} {a : Nat} {f : Int} {most : Nat} (h : (rWant xs a f most).2.2 = 0) : f = 0 ∧ (rWant xs a f most).1 ≤ most ∧ xs.take a ++ sd (rWant xs a f most).1 = xs.take (rWant xs a f most).2.1 := by
  unfold rWant at h ⊢
  dsimp only at h ⊢
  split at h
  · unfold rF at h
    split at h <;> first | (exfalso; omega) | contradiction
  · have := rNum_zero h
    exact ⟨this.1, by omega, this.2⟩
theorem rAsk_zero {b : Bool} {f : Int} (h : rAsk b f = 0) : b = false ∧ f = 0 := by
  unfold rAsk rF at h
  rcases b with _ | _
  · exact ⟨rfl, by simpa using h⟩
  · simp at h
    split at h <;> omega
theorem rBytes_zero {xs : List UInt8} {a : Nat} {f : Int} {most : Nat} (h : (rBytes xs a f (most : Int)).2.2 = 0) : f = 0 ∧ (rBytes xs a f (most : Int)).1.length ≤ most ∧ xs.take a ++ lb (rBytes xs a f (most : Int)).1 = xs.take (rBytes xs a f (most : Int)).2.1 := by
  refine ⟨?_, ?_, (rBytes_over rfl).1 h⟩
  · by_cases hf : f = 0
    · exact hf
    · rw [rBytes, if_pos hf] at h
      exact h
  · obtain ⟨ys, a', f', hr⟩ : ∃ ys a' f', rBytes xs a f (most : Int) = (ys, a', f') := ⟨_, _, _, rfl⟩
    rw [hr] at h ⊢
    dsimp only at h ⊢
    subst h
    unfold rBytes at hr
    split at hr
    · have := congrArg (·.2.2) hr
      contradiction
    · rw [if_neg (by omega), Int.toNat_natCast] at hr
      split at hr
      · have := congrArg (·.2.2) hr
        contradiction
      · have := (rTake_ok hr).2.1
        rw [this]
        exact rNum_most _ _ _ _
theorem decBlk_zero {xs : List UInt8} {ahead : List Blk} {a : Nat} {f : Int} (h : (decBlk xs ahead a f).2.2 = 0) : f = 0 ∧ blkB (decBlk xs ahead a f).1 ahead = true ∧ xs.take a ++ blkL (decBlk xs ahead a f).1 = xs.take (decBlk xs ahead a f).2.1 := by
  unfold decBlk at h ⊢
  dsimp only at h ⊢
  have d1 := rAsk_zero (b := !holds (decT xs ahead a f).1 _) h
  have d2 := rBytes_zero (most := 64) d1.2
  have d3 := rWant_zero d2.1
  have d4 := rAsk_zero (b := nuBad _ ahead) d3.1
  have d5 := rNum_zero d4.2
  have d6 := rAsk_zero (b := tyBad _ ahead) d5.1
  have d7 := rNum_zero d6.2
  refine ⟨d7.1, (blkB_iff _ _).2 ⟨d6.1, d4.1, d3.2.1, d2.2.1, by have := d1.1; rwa [Bool.not_eq_false'] at this⟩, ?_⟩
  unfold blkL
  dsimp only
  rw [← List.append_assoc, ← List.append_assoc, ← List.append_assoc]
  refine Eq.trans ?_ d2.2.2
  refine congrArg (· ++ _) ?_
  refine Eq.trans ?_ d3.2.2
  refine congrArg (· ++ _) ?_
  refine Eq.trans ?_ d5.2
  refine congrArg (· ++ _) ?_
  exact d7.2
theorem decBlks_zero {xs : List UInt8} : ∀ (n : Nat) (l : List Blk) (a : Nat) (f : Int), (decBlks xs n l a f).2.2 = 0 → f = 0 ∧ ∃ m, (decBlks xs n l a f).1 = l ++ m ∧ m.length = n ∧ blksB (l ++ m) l.length = true ∧ xs.take a ++ (m.map blkL).flatten = xs.take (decBlks xs n l a f).2.1
  | 0, l, a, f, h => by
    refine ⟨h, [], by simp [decBlks], rfl, by rw [List.append_nil]; exact blksB_out _ _ (Nat.le_refl _), by simp [decBlks]⟩
  | n + 1, l, a, f, h => by
    by_cases hf : f = 0
    · subst hf
      rw [decBlks_next] at h ⊢
      obtain ⟨h1, m, h2, h3, h4, h5⟩ := decBlks_zero n _ _ _ h
      obtain ⟨-, g2, g3⟩ := decBlk_zero h1
      refine ⟨rfl, (decBlk xs l a 0).1 :: m, by rw [h2]; simp, by simp [h3], ?_, ?_⟩
      · rw [List.append_assoc, List.singleton_append] at h4
        rw [blksB_at _ _ (by simp), Bool.and_eq_true, List.take_left, show (l ++ (decBlk xs l a 0).1 :: m)[l.length]'(by simp) = (decBlk xs l a 0).1 by simp]
        refine ⟨g2, ?_⟩
        rw [List.length_append] at h4
        exact h4
      · rw [List.map_cons, List.flatten_cons, ← List.append_assoc, g3, h5]
    · rw [decBlks_stop _ _ _ _ _ hf] at h
      exact absurd h hf
theorem decNine_zero {xs : List UInt8} : ∀ (n a : Nat) (f : Int), (decNine xs n a f).2.2 = 0 → f = 0 ∧ xs.take a ++ ((decNine xs n a f).1.map sd).flatten = xs.take (decNine xs n a f).2.1
  | 0, a, f, h => ⟨h, by simp [decNine]⟩
  | n + 1, a, f, h => by
    rw [decNine] at h ⊢
    dsimp only at h ⊢
    obtain ⟨h1, h2⟩ := decNine_zero n _ _ h
    obtain ⟨h3, h4⟩ := rNum_zero h1
    refine ⟨h3, ?_⟩
    rw [List.map_cons, List.flatten_cons, ← List.append_assoc, h4, h2]
theorem nine_get : ∀ (l : List Nat), l.length = 9 → [l.getD 0 0, l.getD 1 0, l.getD 2 0, l.getD 3 0, l.getD 4 0, l.getD 5 0, l.getD 6 0, l.getD 7 0, l.getD 8 0] = l
  | [_, _, _, _, _, _, _, _, _], _ => rfl
theorem decV_zero {xs : List UInt8} (h : (decV xs).2 = 0) : xs.take (decV xs).1 = [6] := by
  unfold decV at h ⊢
  dsimp only at h ⊢
  split at h
  · rename_i h6
    obtain ⟨ys, a', f', ht⟩ : ∃ ys a' f', rTake xs 0 0 1 = (ys, a', f') := ⟨_, _, _, rfl⟩
    have := (rTake_over ht).1
    rw [ht] at h6 ⊢
    dsimp only at h6 ⊢
    rw [h6] at this
    simpa using this.symm
  · unfold rF at h
    split at h <;> first | (exfalso; omega) | contradiction
theorem dec_inv {xs : List UInt8} (h : (decAll xs).2.2 = 0) : good (decAll xs).1 = true ∧ laid (decAll xs).1 = xs := by
  unfold decAll at h ⊢
  dsimp only at h ⊢
  obtain ⟨v, hv⟩ : ∃ v, decV xs = v := ⟨_, rfl⟩
  rw [hv] at h ⊢
  obtain ⟨fl, hfl⟩ : ∃ fl, rWant xs v.1 v.2 7 = fl := ⟨_, rfl⟩
  rw [hfl] at h ⊢
  obtain ⟨m, hm⟩ : ∃ m, decNine xs 9 fl.2.1 fl.2.2 = m := ⟨_, rfl⟩
  rw [hm] at h ⊢
  obtain ⟨n, hn⟩ : ∃ n, rWant xs m.2.1 m.2.2 8 = n := ⟨_, rfl⟩
  rw [hn] at h ⊢
  obtain ⟨b, hb⟩ : ∃ b, decBlks xs n.1 [] n.2.1 n.2.2 = b := ⟨_, rfl⟩
  rw [hb] at h ⊢
  obtain ⟨p, hp⟩ : ∃ p, rBytes xs b.2.1 b.2.2 512 = p := ⟨_, rfl⟩
  rw [hp] at h ⊢
  have he : p.2.2 = 0 ∧ xs.length ≤ p.2.1 := by
    unfold rEnd at h
    split at h
    · omega
    · rename_i h1
      exact ⟨h, by omega⟩
  have d1 := rBytes_zero (xs := xs) (a := b.2.1) (f := b.2.2) (most := 512) (by rw [show ((512 : Nat) : Int) = 512 from rfl, hp]; exact he.1)
  rw [show ((512 : Nat) : Int) = 512 from rfl, hp] at d1
  obtain ⟨d2, l, d3, d4, d5, d6⟩ := decBlks_zero n.1 [] n.2.1 n.2.2 (by rw [hb]; exact d1.1)
  rw [hb] at d3 d6
  have d7 := rWant_zero (xs := xs) (a := m.2.1) (f := m.2.2) (most := 8) (by rw [hn]; exact d2)
  rw [hn] at d7
  have d8 := decNine_zero (xs := xs) 9 fl.2.1 fl.2.2 (by rw [hm]; exact d7.1)
  rw [hm] at d8
  have d9 := rWant_zero (xs := xs) (a := v.1) (f := v.2) (most := 7) (by rw [hfl]; exact d8.1)
  rw [hfl] at d9
  have d10 := decV_zero (xs := xs) (by rw [hv]; exact d9.1)
  rw [hv] at d10
  have hml : m.1.length = 9 := by rw [← hm]; exact decNine_len _ _ _ _
  have hmz : ∀ z ∈ m.1, z ≤ 281474976710655 := by rw [← hm]; exact decNine_lt _ _ _ _
  rw [List.nil_append] at d3 d5
  have hn9 := nine_get m.1 hml
  refine ⟨(good_iff _).2 ⟨d9.2.1, ?_, ?_, d1.2.1, ?_⟩, ?_⟩
  · intro z hz
    have hz' : z ∈ [m.1.getD 0 0, m.1.getD 1 0, m.1.getD 2 0, m.1.getD 3 0, m.1.getD 4 0, m.1.getD 5 0, m.1.getD 6 0, m.1.getD 7 0, m.1.getD 8 0] := hz
    rw [hn9] at hz'
    exact hmz z hz'
  · show b.1.length ≤ 8
    rw [d3, d4]
    exact d7.2.1
  · show blksB b.1 0 = true
    rw [d3]
    exact d5
  · rw [laid_front, frontL, headL_eq]
    unfold nine
    dsimp only
    rw [hn9, d3, d4]
    have : xs.take p.2.1 = xs := List.take_of_length_le he.2
    rw [← this, ← d1.2.2, ← d6, ← d7.2.2, ← d8.2, ← d9.2.2, d10]
    simp [List.append_assoc]
end Go.Proofs.Yteokkpmndfekoaa
