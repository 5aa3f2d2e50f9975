/- EtherTells: the walk. -/
import Derived.Test.YteokkpmndfekoaaDoorET2
import Derived.Deep.DeepCutAuto
import Derived.Deep.CutBlock
namespace Go.Proofs.YteokkpmndfekoaaDoor
open Go Go.RowKit Go.ChangeShapes Go.WideShapes Go.ChangeAt
set_option maxRecDepth 100000
-- %lastw

def TxAt (w : World) (cs : List Value) (xs : List UInt8) : Prop := ∃ v, cs = [v] ∧ RdB w v xs
def RdTs (w : World) (v : Value) (l : List (List UInt8)) : Prop := SlAt w 1 TxAt v l
theorem eopSz' (o : Value) (k i at_ m : Int) : (Tryd.prog.info? 49).map (·.size) = some [.int .i64 k, o, .int .i64 i, .int .i64 at_, .int .u32 m].length := by kernel_rfl
theorem l_mem_le' {l : List EOp} {o : EOp} (h : o ∈ l) : o.b.length + 5 ≤ (l.map fun o => o.b.length + 5).sum := by
  induction l with
  | nil => cases h
  | cons a r ih =>
    simp only [List.map_cons, List.sum_cons]
    rcases List.mem_cons.1 h with rfl | h
    · omega
    · have := ih h
      omega
theorem l_len_le' (l : List EOp) : l.length ≤ (l.map fun o => o.b.length + 5).sum := by
  induction l with
  | nil => simp
  | cons a r ih => simp only [List.map_cons, List.sum_cons, List.length_cons]; omega
theorem look_x {w : World} {F : Nat → Prop} {g n j : Nat} {st : List (List UInt8 × Bool)} (h : WayX true PT w F g n st) (hj : j < st.length) : Calls Tryd.prog 7 #[.pointer (some ⟨g, 0, none⟩), .int .i64 (j : Int)] w (BokP w st[j].1) := by
  obtain ⟨v, ls, h, rfl⟩ := h
  have hj2 : j < ls.length := by rwa [stOf_len] at hj
  rw [stOf_get ls j hj2]
  exact way_look h hj2
set_option maxHeartbeats 12800000 in
theorem tells_walk {w : World} {room : Int} {tA sA : Option Addr} {tL sL tc sc : Nat} {tx : List (List UInt8)} {l : List EOp} (hb : BitsOk w) (ht : TabOk w) (htx : RdTs w (.slice tA tL tc) tx) (htl : ∀ x ∈ tx, x.length ≤ 10000000) (htn : tL ≤ 10000000) (hs : RdEOps w (.slice sA sL sc) l) (hsz : (l.map fun o => o.b.length + 5).sum ≤ 2000000) :
    Calls Tryd.prog 6 #[.int .i64 room, .slice tA tL tc, .slice sA sL sc] w (TrueP w) := by
  obtain ⟨t0, k0, ht0, hl0, hu0, hk0, hkl0⟩ := place_of room (L := 1024) (by omega)
  rw [show ((1024 : Nat) : Int) = 1024 from rfl] at ht0 hl0 hu0 hk0
  have hlen : sL = l.length := by
    obtain ⟨A', c', hv, _⟩ := hs.form
    injection hv
  have hLb : sL ≤ 2000000 := by have := l_len_le' l; omega
  have HL := Lib.hid (And.intro hlen (And.intro hs hsz))
  have HT := Lib.hid (And.intro htx htl)
  have hN := way_new (n := k0 + 1) (w := w) (by omega) (by omega) PT
  rw [show ((k0 + 1 : Nat) : Int) = 1 + (k0 : Int) by omega] at hN
  clear hlen hs hsz htx htl
  go_enter Tryd.func6, Tryd.ntmps6
  go_wp2_with fail
  refine hN.mono ?_
  rintro e w1 ⟨g, rfl, hg, k1⟩
  obtain ⟨n, hn⟩ : ∃ n, k0 + 1 = n := ⟨_, rfl⟩
  have hni : 1 + (k0 : Int) = (n : Int) := by omega
  rw [hn] at hg
  rw [hni]
  have hn1 : 1 ≤ n ∧ n ≤ 1024 := by omega
  have hT1 : TellM w w1 (Iv w.heap.size w1.heap.size) (fun _ => False) g n (stB []) (.slice none 0 0) [] := ⟨⟨⟨_, _, hg, rfl⟩, k1, fun x hx => hx⟩, BookM.nil _ _, fun x hx => hx.elim, fun x _ hx => hx⟩
  have HT1 := Lib.hid hT1
  clear hT1 hg k1 hN hk0 hl0 hu0 hn hni
  go_wp2_with fail
  go_loopw [10, 11] (fun bv i wr => ∃ (q : Nat) (F B : Nat → Prop) (bk : List Bk), q ≤ sL ∧ i = .int .i64 q ∧ TellM w wr F B g n (stB bk) bv bk ∧ (∀ s ∈ bk, OkS s)) (fun _ i _ => sL - (intOf i).toNat)
  case atStart => exact ⟨0, _, _, [], Nat.zero_le _, rfl, HT1.out, fun s hs => (List.not_mem_nil hs).elim⟩
  case round =>
    clear HT1
    obtain ⟨q, F, B, bk, hq, rfl, hM, hok⟩ := hrel
    by_cases hlt : q < sL
    · have hql : q < l.length := by rw [← HL.out.1]; exact hlt
      obtain ⟨o, ho⟩ : ∃ o, l[q] = o := ⟨_, rfl⟩
      obtain ⟨ad, cs, rfl, hcs, hrow, hat⟩ := HL.out.2.1.row q hql
      rw [ho] at hat
      obtain ⟨⟨bvv, rfl, hbv⟩, hIi, hIa, hmm⟩ := hat
      obtain ⟨bA, bc, rfl, -⟩ := hbv.form
      have hrow2 := hrow.keepN hM.kp
      clear hbv ho hcs hrow
      obtain ⟨k, b, i, at_, m⟩ := o
      dsimp only at hrow2 hIi hIa hmm
      generalize b.length = bl at *
      obtain ⟨bA', bc', rfl, hbc⟩ := hM.book.shape
      obtain ⟨N, hN⟩ : ∃ N, bk.length = N := ⟨_, rfl⟩
      obtain ⟨W1, hW1⟩ : ∃ W1, wr.alloc (.cells #[.int .i64 k, .slice bA bl bc, .int .i64 i, .int .i64 at_, .int .u32 (m : Int)] 49) = W1 := ⟨_, rfl⟩
      obtain ⟨ob, hob⟩ : ∃ ob, wr.heap.size = ob := ⟨_, rfl⟩
      have k1 : KpN wr W1 := by rw [← hW1]; exact (Kp.refl _ _).alloc _
      have hbx : OpBox W1 ob k (.slice bA bl bc) i at_ (m : Int) := by rw [← hW1, ← hob]; exact OpBox.made wr k (.slice bA bl bc) i at_ (m : Int) _
      have hM : TellM w wr F B g n (stB bk) (.slice bA' N bc') bk := by rw [← hN]; exact hM
      have hle := hM.way.p.le
      rw [stB_len, hN] at hle
      have hNo : ¬ (F ob ∨ B ob) := fun e => by
        rcases e with e | e
        · have := (hM.way.fl _ e).2; omega
        · have := (hM.bl _ e).2; omega
      have HM := Lib.hid (And.intro (hM.keepN k1) (And.intro hok (And.intro hle.1 (And.intro hbx hNo))))
      have HN := Lib.hid hN
      have HW1 := Lib.hid (And.intro hW1 hob)
      have hobb : ob < W1.heap.size := hbx.lt
      have b0 := hbx.c0
      have b2 := hbx.c2
      have b3 := hbx.c3
      have b4 := hbx.c4
      have hld := run_loadAt_rowat (P := Tryd.prog) hrow2 Tryd.underlying49 rfl (eopSz' _ _ _ _ _)
      rw [hN] at hbc ⊢
      clear hrow2 hM hok hbx hle hN hW1 hob hNo k1
      obtain ⟨KK, hKK⟩ : ∃ KK : Int, (N = 0 → KK = i) ∧ (0 < N → ∃ kk : Nat, KK = kk ∧ kk < N ∧ ∃ tt, i.tmod N = tt ∧ -(N : Int) < tt ∧ tt < N ∧ (tt + N).tmod N = KK) := by
        by_cases hN0 : N = 0
        · exact ⟨i, fun _ => rfl, fun h => by omega⟩
        · obtain ⟨tt, kk, htt, htl2, htu, hkk, hkl⟩ := place_of i (L := N) (by omega)
          exact ⟨kk, fun h => absurd h hN0, fun _ => ⟨kk, rfl, hkl, tt, htt, htl2, htu, hkk⟩⟩
      have HKK := Lib.hid hKK
      clear hKK
      go_upto_if 56 with (first | ((with_reducible show wpList _ _ _ (Oper.mk _ (Op.load 49 _) _ _ _ _ :: _) _ _); refine wpl_val rfl (run_load_opv hld rfl) ?_) | ((with_reducible show wpList _ _ _ _ _ (World.alloc wr _)); rw [HW1.out.1, HW1.out.2]) | fail)
      go_cut [13] (fun kv wx => kv = .int .i64 KK ∧ wx = W1)
      case first =>
        by_cases hN0 : N = 0
        · as_aux_lemma =>
            have hN0' : (N : Int) = 0 := by omega
            have e := HKK.out.1 hN0
            subst e
            subst hN0
            go_wp2_with fail
            go_meet
            case rel => exact ⟨rfl, rfl⟩
        · as_aux_lemma =>
            obtain ⟨kk, rfl, hkl, tt, htt, htl2, htu, hkk⟩ := HKK.out.2 (by omega)
            have hNp : (0 : Int) < (N : Int) := by omega
            have hbnd : n ≤ 1024 := hn1.2
            have hNn := HM.out.2.2.1
            clear hN0
            go_wp2_with fail
            go_meet
            case rel => exact ⟨rfl, rfl⟩
      case rest =>
        obtain ⟨rfl, hww⟩ := hcut
        have hw2 := hww.symm
        subst hw2
        clear hww
        go_upto_region 14 with fail
        obtain ⟨th, hth⟩ : ∃ th, decide (0 < N) = th := ⟨_, rfl⟩
        rw [hth]
        have HTH := Lib.hid (show (th = false → N = 0) ∧ (th = true → 0 < N) from ⟨fun e => by rw [e] at hth; simp at hth; omega, fun e => by rw [e] at hth; simp at hth; omega⟩)
        clear hth
        go_upto_block 2 with fail
        go_cut [10] (fun bv wx => ∃ (F B : Nat → Prop) (bk : List Bk) (N : Nat) (A : Option Addr) (c : Nat), bv = .slice A N c ∧ bk.length = N ∧ TellM w wx F B g n (stB bk) bv bk ∧ (∀ s ∈ bk, OkS s))
        case first =>
          by_cases hk1 : k = 1
          · as_aux_lemma =>
              subst hk1
              have hbnd : n ≤ 1024 := hn1.2

              have hobS := HM.out.2.2.2.1
              go_upto_if 78 with fail
              go_cut [15] (fun tv wx => ∃ (A5 : Option Addr) (n5 c5 : Nat) (xs : List UInt8), tv = .slice A5 n5 c5 ∧ RdB wx (.slice A5 n5 c5) xs ∧ n5 ≤ 10000000 ∧ KpN W1 wx)
              case first =>
                by_cases ht0' : tL = 0
                · as_aux_lemma =>
                    subst ht0'
                    have k5 := (Kp.refl (fun _ => False) W1).alloc (.cells #[] 5)
                    have r5 := (OwB.lit W1 5 [] #[] rfl (by simp)).readsB
                    have HF5 := Lib.hid (And.intro r5 k5)
                    clear r5 k5
                    go_wp2_with fail
                    go_meet
                    case rel => exact ⟨_, _, _, [], rfl, HF5.out.1, by omega, HF5.out.2⟩
                · as_aux_lemma =>
                    obtain ⟨t5, k5, h51, h52, h53, h54, h55⟩ := place_of i (L := tL) (by omega)
                    have htp : (0 : Int) < (tL : Int) := by omega
                    have htl : tx.length = tL := by
                      obtain ⟨A', c', hv, _⟩ := HT.out.1.form
                      injection hv with _ e2
                      exact e2.symm
                    obtain ⟨adT, csT, rfl, hcsT, hrowT, vT, rfl, hvT⟩ := HT.out.1.row k5 (by omega)
                    have hxl := HT.out.2 _ (List.getElem_mem (show k5 < tx.length by omega))
                    have kl := (Kp.refl (fun _ => False) W1).alloc (.cells #[] 5)
                    have kw := HM.out.1.kp.thenN kl
                    have cT : (W1.alloc (.cells #[] 5)).cell? (adT.add k5) = some vT := by
                      have := (hrowT.keepN kw) 0 vT rfl
                      rwa [Nat.mul_one] at this
                    have rT := hvT.keepN kw
                    obtain ⟨AT, cT', hvT', -⟩ := rT.form
                    rw [hvT'] at cT rT
                    have hcT : k5 < tc := by
                      obtain ⟨A', c', hv, hc⟩ := HT.out.1.form
                      injection hv with _ _ e3
                      omega
                    have HF5 := Lib.hid (And.intro rT (And.intro kl hxl))
                    clear hrowT hvT rT hvT' kw kl hcsT hxl
                    generalize tx[k5].length = lT at *
                    go_wp2_with fail
                    go_meet
                    case rel => exact ⟨_, _, _, _, rfl, HF5.out.1, HF5.out.2.2, HF5.out.2.1⟩
              case rest =>
                obtain ⟨A5, n5, c5, xs, rfl, hr5, hn5, kw5⟩ := hcut
                have HR5 := Lib.hid (And.intro hr5 kw5)
                clear hr5 kw5
                go_upto_if 95 with fail
                go_cut [15] (fun tv wx => ∃ (A6 : Option Addr) (n6 c6 : Nat) (xs : List UInt8), tv = .slice A6 n6 c6 ∧ RdB wx (.slice A6 n6 c6) xs ∧ n6 ≤ 2044 ∧ KpN W1 wx)
                case first =>
                  by_cases h2044 : 2044 < n5
                  · as_aux_lemma =>
                      have hc5 : 2044 ≤ c5 := by
                        obtain ⟨A', c', hv, hc⟩ := HR5.out.1.form
                        injection hv with _ e2 e3
                        omega
                      go_wp2_with fail
                      go_meet
                      case rel => exact ⟨_, _, _, _, rfl, HR5.out.1.take 2044 (by omega), by omega, HR5.out.2⟩
                  · as_aux_lemma =>
                      go_wp2_with fail
                      go_meet
                      case rel => exact ⟨_, _, _, _, rfl, HR5.out.1, by omega, HR5.out.2⟩
                case rest =>
                  obtain ⟨A6, n6, c6, ys, rfl, hr6, hn6, kw6⟩ := hcut
                  have hyl := hr6.len
                  have h6 := HM.out.1.keepN kw6
                  have hS := sealed_c hr6 (ht.keepN h6.kp) (by omega)
                  have H6 := Lib.hid h6
                  clear hr6 kw6 HR5 h6 hn5
                  obtain ⟨Z, hZ⟩ : ∃ Z, ys ++ sl ys = Z := ⟨_, rfl⟩
                  have hZl : Z.length ≤ 2048 := by rw [← hZ, List.length_append, sl_length]; omega
                  rw [hZ] at hS
                  have HZ := Lib.hid hZ
                  clear hZ hyl
                  go_wp2_with fail
                  refine hS.mono ?_
                  rintro e w7 ⟨u, rfl, ou, k7⟩
                  obtain ⟨Au, cu, rfl, -⟩ := ou.readsB.form
                  have h7 := H6.out.keepN k7
                  have hP := way_put h7.way.p ou.readsB (by omega)
                  have H7 := Lib.hid (And.intro h7 (And.intro ou k7))
                  clear hS h7 ou k7
                  obtain ⟨LZ, hLZ⟩ : ∃ LZ, Z.length = LZ := ⟨_, rfl⟩
                  rw [hLZ] at hP H7 ⊢
                  by_cases hNn2 : N = n
                  · as_aux_lemma =>
                      rw [show putS n (stB bk) Z = (2, stB bk) by unfold putS; rw [if_neg (by omega), if_pos (by rw [stB_len, HN.out]; exact hNn2)]] at hP
                      have hN3 : ¬ (N : Int) < (n : Int) := by omega
                      clear hNn2 hLZ
                      go_wp2_with fail
                      refine hP.mono ?_
                      rintro e w8 ⟨rfl, F8, hX8, hG8, k8⟩
                      have HF := Lib.hid (H7.out.1.wayOp hX8 hG8 k8)
                      clear hP hX8 hG8 k8
                      go_wp2_with fail
                      go_meet
                      case rel => exact ⟨_, _, bk, _, _, _, rfl, HN.out, HF.out, HM.out.2.1⟩

                  · as_aux_lemma =>
                      rw [show putS n (stB bk) Z = (0, stB bk ++ [(Z, false)]) by unfold putS; rw [if_neg (by omega), if_neg (by rw [stB_len, HN.out]; exact hNn2)]] at hP
                      have hNle := HM.out.2.2.1
                      have hnle := hn1.2
                      have hN3 : (N : Int) < (n : Int) := by omega
                      clear hNn2
                      go_wp2_with fail
                      refine hP.mono ?_
                      rintro e w8 ⟨rfl, F8, hX8, hG8, k8⟩
                      have h8 := H7.out.1.wayOp hX8 hG8 k8
                      have hru : RdB w8 (.slice Au LZ cu) Z := H7.out.2.1.readsB.keep k8 (fun i h1 h2 => by
                        have := (H7.out.2.1.fit i h1).1
                        have := (H6.out.way.fl i h2).2
                        omega)
                      obtain ⟨v9, w9, r9, o9, k9⟩ := run_appB_nil (P := Tryd.prog) (ty := 26) w8 Tryd.underlying26 u8info hru (by omega)
                      obtain ⟨A9, c9, rfl, -⟩ := o9.readsB.form
                      rw [hLZ] at r9 o9
                      have h9 := h8.keepN k9
                      obtain ⟨s, hs⟩ : ∃ s : Bk, s = ⟨.slice A9 LZ c9, Z, 0, 0⟩ := ⟨_, rfl⟩
                      have hx : RdC (w9.alloc (.cells #[.slice A9 LZ c9, .int .i64 0, .int .u32 0] ST)) 3 (.slice (some ⟨w9.heap.size, 0, none⟩) 1 1) 1 (bkC s) := by
                        have := (OwC.lit w9 ST 3 1 #[.slice A9 LZ c9, .int .i64 0, .int .u32 0] (by simp [maxLen]) rfl).reads
                        rw [hs]
                        exact this
                      have kl := (Kp.refl (fun _ => False) w9).alloc (.cells #[.slice A9 LZ c9, .int .i64 0, .int .u32 0] ST)
                      have hz8 := k8.size
                      have hz9 := k9.size
                      have hzl : (w9.alloc (.cells #[.slice A9 LZ c9, .int .i64 0, .int .u32 0] ST)).heap.size = w9.heap.size + 1 := by simp
                      have hbw : BookM (w9.alloc (.cells #[.slice A9 LZ c9, .int .i64 0, .int .u32 0] ST)) (fun k => B k ∨ Iv w8.heap.size w9.heap.size k) (.slice bA' N bc') bk := (h8.book.keepN (k9.thenN kl)).wide (fun _ _ x => .inl x)
                      have hos : OwB (w9.alloc (.cells #[.slice A9 LZ c9, .int .i64 0, .int .u32 0] ST)) 5 (fun k => B k ∨ Iv w8.heap.size w9.heap.size k) s.v s.b := by rw [hs]; exact (o9.keepN kl).wide (fun _ _ x => .inr x)
                      obtain ⟨v10, w10, r10, b10, k10⟩ := hbw.push hos hx (by have := HN.out; omega)
                      have hz10 := k10.size
                      have kk10 : Kp B w8 w10 := Kp.after (k9.thenN kl) k10 |>.mono (fun b hb h => by
                        rcases h with h | h
                        · exact h
                        · have := h.1; omega)
                      have h10 := h8.bookOp b10 (fun b hb => by
                        rcases hb with (hb | hb) | hb
                        · exact .inl hb
                        · exact .inr ⟨hb.1, by have := hb.2; omega⟩
                        · exact .inr ⟨by have := hb.1; omega, hb.2⟩) kk10
                      obtain ⟨A10, c10, hv10, -⟩ := b10.shape
                      have hl10 : (bk ++ [s]).length = N + 1 := by rw [List.length_append, HN.out]; rfl
                      have hsb : s.b = Z ∧ s.m = 0 := by rw [hs]; exact ⟨rfl, rfl⟩
                      rw [← hsb.1, stB_push hsb.2] at h10
                      rw [hl10] at hv10
                      rw [hv10] at r10 h10
                      have HF := Lib.hid h10
                      have HL10 := Lib.hid hl10
                      have HOK := Lib.hid (show ∀ x ∈ bk ++ [s], OkS x from fun x hx => by
                        rcases List.mem_append.1 hx with hx | hx
                        · exact HM.out.2.1 x hx
                        · obtain rfl := List.mem_singleton.1 hx
                          rw [hs]
                          exact ⟨⟨ys, HZ.out.symm⟩, hZl, by simp, by simp, fun e => absurd rfl e⟩)
                      clear hP hX8 hG8 h8 hru o9 h9 hx kl hbw hos b10 k10 kk10 h10 hv10 hl10 hsb hs hz8 hz9 hz10 hzl k9 k8 hLZ
                      go_wp2_with (first | ((with_reducible show wpList _ _ _ (Oper.mk (some 122) (Op.call _) _ _ _ _ :: _) _ _); refine app_op r9 rfl rfl ?_) | ((with_reducible show wpList _ _ _ (Oper.mk (some 125) (Op.call _) _ _ _ _ :: _) _ _); refine app_op r10 rfl rfl ?_) | fail)
                      go_meet
                      case rel => exact ⟨_, _, _, _, _, _, rfl, HL10.out, HF.out, HOK.out⟩
          by_cases hk5 : k = 5
          · as_aux_lemma =>
              subst hk5
              rcases th with _ | _
              · as_aux_lemma =>
                  have hN0 := HTH.out.1 rfl
                  have hnone : atS (stB bk) i = none := by
                    rw [List.eq_nil_of_length_eq_zero (HN.out.trans hN0)]
                    unfold atS
                    split
                    · rfl
                    · rfl
                  obtain rfl : i = KK := (HKK.out.1 hN0).symm
                  have hN0' : ((N : Int) : Int) = 0 := by omega
                  have hN0n : N ≤ 0 := by omega
                  have HN0 := Lib.hid hN0
                  clear hN0 hN0'
                  have hcall := way_double (i := i) HM.out.1.way.p
                  rw [show doubleS n (stB bk) i = (4, stB bk) by unfold doubleS; rw [hnone]] at hcall
                  go_wp2_with fail
                  refine hcall.mono ?_
                  rintro e w2 ⟨rfl, F2, hX2, hG2, k2⟩
                  have HF := Lib.hid (HM.out.1.wayOp hX2 hG2 k2)
                  clear hcall
                  go_wp2_with fail
                  go_meet
                  case rel => exact ⟨_, _, bk, _, _, _, rfl, HN.out, HF.out, HM.out.2.1⟩
              · as_aux_lemma =>
                  have hNp0 := HTH.out.2 rfl
                  obtain ⟨kk, hkk0, hkl, -⟩ := HKK.out.2 hNp0
                  subst hkk0
                  have hNp : (0 : Int) < (N : Int) := by omega
                  have hkb : kk < bk.length := by rw [HN.out]; exact hkl
                  have hbnd : n ≤ 1024 := hn1.2
                  have hNn := HM.out.2.2.1
                  clear hNp0

                  obtain ⟨gb, cb, hvb, hgb, hcb⟩ := HM.out.1.book.form (by omega)
                  injection hvb with e1 e2 e3
                  subst e1 e3
                  clear e2
                  have hat := stB_at hkb
                  by_cases hNn2 : N = n
                  · have hcall := way_double (i := (kk : Int)) HM.out.1.way.p
                    rw [show doubleS n (stB bk) (kk : Int) = (2, stB bk) by unfold doubleS; rw [hat]; exact if_pos (by rw [stB_len, HN.out]; exact hNn2)] at hcall
                    have hN2 : (N : Int) = (n : Int) := by omega
                    have hN3 : ¬ (N : Int) < (n : Int) := by omega
                    clear hN2 hat hNn2
                    go_wp2_with fail
                    refine hcall.mono ?_
                    rintro e w2 ⟨rfl, F2, hX2, hG2, k2⟩
                    have HF := Lib.hid (HM.out.1.wayOp hX2 hG2 k2)
                    clear hcall hX2 hG2
                    go_wp2_with fail
                    go_meet
                    case rel => exact ⟨_, _, bk, _, _, _, rfl, HN.out, HF.out, HM.out.2.1⟩

                  · have hcall := way_double (i := (kk : Int)) HM.out.1.way.p
                    rw [show doubleS n (stB bk) (kk : Int) = (0, stB (bk ++ [bk[kk]])) by unfold doubleS; rw [hat]; dsimp only; rw [if_neg (by rw [stB_len, HN.out]; exact hNn2), stB_double kk hkb]] at hcall
                    have hN3 : (N : Int) < (n : Int) := by omega
                    clear hat
                    go_wp2_with fail
                    refine hcall.mono ?_
                    rintro e w2 ⟨rfl, F2, hX2, hG2, k2⟩
                    have h2 := HM.out.1.wayOp hX2 hG2 k2
                    have hrow : RowAt w2 ⟨gb, kk * 3, none⟩ (bkC bk[kk]) := fun j v hj => by
                      match j, hj with
                      | 0, hj => simp [bkC] at hj; subst hj; exact h2.book.c0 kk hkb
                      | 1, hj => simp [bkC] at hj; subst hj; exact h2.book.c1 kk hkb
                      | 2, hj => simp [bkC] at hj; subst hj; exact h2.book.c2 kk hkb
                    have hok := HM.out.2.1 _ (List.getElem_mem hkb)
                    have hob := h2.book.each _ (List.getElem_mem hkb)
                    obtain ⟨s, hs⟩ : ∃ s, bk[kk] = s := ⟨_, rfl⟩
                    rw [hs] at hrow hok hob h2
                    obtain ⟨As, cs, hvs, -⟩ := hob.readsB.form
                    have hld2 := run_loadAt_rowat (P := Tryd.prog) hrow Tryd.underlying56 rfl (show (Tryd.prog.info? ST).map (·.size) = some (bkC s).length by kernel_rfl)
                    rw [show (bkC s).toArray = #[.slice As s.b.length cs, .int .i64 s.at_, .int .u32 (s.m : Int)] by simp [bkC, hvs]] at hld2
                    have kl := (Kp.refl (fun _ => False) w2).alloc (.cells #[.slice As s.b.length cs, .int .i64 s.at_, .int .u32 (s.m : Int)] ST)
                    have hx : RdC (w2.alloc (.cells #[.slice As s.b.length cs, .int .i64 s.at_, .int .u32 (s.m : Int)] ST)) 3 (.slice (some ⟨w2.heap.size, 0, none⟩) 1 1) 1 (bkC s) := by
                      have := (OwC.lit w2 ST 3 1 #[.slice As s.b.length cs, .int .i64 s.at_, .int .u32 (s.m : Int)] (by simp [maxLen]) rfl).reads
                      rw [show (#[.slice As s.b.length cs, .int .i64 s.at_, .int .u32 (s.m : Int)] : Array Value).toList = bkC s by simp [bkC, hvs]] at this
                      exact this
                    have hbl := HN.out
                    obtain ⟨v5, w5, r5, b5, k5⟩ := (h2.keepN kl).book.push (hob.keepN kl) hx (by omega)
                    have hz5 := k5.size
                    have h5 := (h2.keepN kl).bookOp b5 (fun x hx => hx) k5
                    obtain ⟨A5, c5, hv5, -⟩ := b5.shape
                    have hl5 : (bk ++ [s]).length = N + 1 := by rw [List.length_append, hbl]; rfl
                    rw [hl5] at hv5
                    rw [hv5] at r5 h5
                    have HF := Lib.hid h5
                    have HOK := Lib.hid (show ∀ x ∈ bk ++ [s], OkS x from fun x hx => by
                      rcases List.mem_append.1 hx with hx | hx
                      · exact HM.out.2.1 x hx
                      · obtain rfl := List.mem_singleton.1 hx; exact hok)
                    have HL5 := Lib.hid hl5
                    clear hcall hX2 hG2 h2 hrow hob hs hvs kl hx b5 k5 h5 hv5 hl5 hbl hok hz5
                    go_wp2_with (first | ((with_reducible show wpList _ _ _ (Oper.mk (some 147) (Op.load _ _) _ _ _ _ :: _) _ _); refine wpl_val rfl (run_load_opv hld2 rfl) ?_) | ((with_reducible show wpList _ _ _ (Oper.mk (some 149) (Op.call _) _ _ _ _ :: _) _ _); refine app_op r5 rfl rfl ?_) | fail)
                    go_meet
                    case rel => exact ⟨_, _, _, _, _, _, rfl, HL5.out, HF.out, HOK.out⟩
          by_cases hk4 : k = 4
          · as_aux_lemma =>
              subst hk4
              rcases th with _ | _
              · as_aux_lemma =>
                  have hN0 := HTH.out.1 rfl
                  have hnone : atS (stB bk) i = none := by
                    rw [List.eq_nil_of_length_eq_zero (HN.out.trans hN0)]
                    unfold atS
                    split
                    · rfl
                    · rfl
                  obtain rfl : i = KK := (HKK.out.1 hN0).symm
                  have hN0' : ((N : Int) : Int) = 0 := by omega
                  have hN0n : N ≤ 0 := by omega
                  have HN0 := Lib.hid hN0
                  clear hN0 hN0'
                  have hcall := way_drop_out HM.out.1.way.p hnone
                  go_wp2_with fail
                  refine hcall.mono ?_
                  rintro e w2 ⟨rfl, k2⟩
                  have HF := Lib.hid (HM.out.1.keepN k2)
                  clear hcall
                  go_wp2_with fail
                  go_meet
                  case rel => exact ⟨_, _, bk, _, _, _, rfl, HN.out, HF.out, HM.out.2.1⟩
              · as_aux_lemma =>
                  have hNp0 := HTH.out.2 rfl
                  obtain ⟨kk, hkk0, hkl, -⟩ := HKK.out.2 hNp0
                  subst hkk0
                  have hNp : (0 : Int) < (N : Int) := by omega
                  have hkb : kk < bk.length := by rw [HN.out]; exact hkl
                  have hbnd : n ≤ 1024 := hn1.2
                  have hNn := HM.out.2.2.1
                  clear hNp0

                  obtain ⟨gb, cb, hvb, hgb, hcb⟩ := HM.out.1.book.form (by omega)
                  injection hvb with e1 e2 e3
                  subst e1 e3
                  clear e2
                  have hcall := way_drop (j := kk) HM.out.1.way.p (by rw [stB_len]; exact hkb)
                  go_wp2_with fail
                  refine hcall.mono ?_
                  rintro e w2 ⟨rfl, F2, hX2, hG2, k2⟩
                  rw [stB_erase] at hX2
                  have h2 := HM.out.1.wayOp hX2 hG2 k2
                  have hbl := HN.out
                  have hwo := without_c h2.book hkb (by omega)
                  have hl5 : (bk.eraseIdx kk).length = N - 1 := by rw [List.length_eraseIdx_of_lt (by omega), hbl]
                  have H2 := Lib.hid h2
                  have HL5 := Lib.hid hl5
                  clear hcall hX2 hG2 h2 hbl hl5
                  go_wp2_with fail
                  refine hwo.mono ?_
                  rintro e w3 ⟨v3, rfl, b3, k3⟩
                  have h3 := H2.out.bookOp b3 (fun x hx => hx) (k3.mono (fun _ _ x => x.elim))
                  obtain ⟨A3, c3, hv3, -⟩ := b3.shape
                  rw [HL5.out] at hv3
                  subst hv3
                  have HF := Lib.hid h3
                  have HOK := Lib.hid (show ∀ x ∈ bk.eraseIdx kk, OkS x from fun x hx => HM.out.2.1 x ((List.eraseIdx_sublist bk kk).subset hx))
                  clear h3 b3 hwo
                  go_wp2_with fail
                  go_meet
                  case rel => exact ⟨_, _, _, _, _, _, rfl, HL5.out, HF.out, HOK.out⟩
          by_cases hk6 : k = 6
          · as_aux_lemma =>
              subst hk6
              rcases th with _ | _
              · as_aux_lemma =>
                  have hN0 := HTH.out.1 rfl
                  have hnone : atS (stB bk) i = none := by
                    rw [List.eq_nil_of_length_eq_zero (HN.out.trans hN0)]
                    unfold atS
                    split
                    · rfl
                    · rfl
                  obtain rfl : i = KK := (HKK.out.1 hN0).symm
                  have hN0' : ((N : Int) : Int) = 0 := by omega
                  have hN0n : N ≤ 0 := by omega
                  have HN0 := Lib.hid hN0
                  clear hN0 hN0'
                  have hcall := way_turn (i := i) HM.out.1.way.p (hb.keepN HM.out.1.kp) hIa hmm
                  rw [show turnS (stB bk) i at_ m = (4, stB bk) by unfold turnS; rw [hnone]] at hcall
                  go_wp2_with fail
                  refine hcall.mono ?_
                  rintro e w2 ⟨rfl, F2, hX2, hG2, k2⟩
                  have HF := Lib.hid (HM.out.1.wayOp hX2 hG2 k2)
                  clear hcall
                  go_wp2_with fail
                  go_region
                  have HF := Lib.hid (HF.out.keepN (Kp.refl _ w2).drew)
                  go_wp2_with fail
                  go_meet
                  case rel => exact ⟨_, _, bk, _, _, _, rfl, HN.out, HF.out, HM.out.2.1⟩
              · as_aux_lemma =>
                  have hNp0 := HTH.out.2 rfl
                  obtain ⟨kk, hkk0, hkl, -⟩ := HKK.out.2 hNp0
                  subst hkk0
                  have hNp : (0 : Int) < (N : Int) := by omega
                  have hkb : kk < bk.length := by rw [HN.out]; exact hkl
                  have hbnd : n ≤ 1024 := hn1.2
                  have hNn := HM.out.2.2.1
                  clear hNp0

                  obtain ⟨gb, cb, hvb, hgb, hcb⟩ := HM.out.1.book.form (by omega)
                  injection hvb with e1 e2 e3
                  subst e1 e3
                  clear e2
                  have hat := stB_at hkb
                  have hok := HM.out.2.1 _ (List.getElem_mem hkb)
                  have hob := HM.out.1.book.each _ (List.getElem_mem hkb)
                  have hq0 := HM.out.1.book.c0 kk hkb
                  have hq2 := HM.out.1.book.c2 kk hkb
                  have hgbl : gb < W1.heap.size := HM.out.1.book.row.lt gb rfl
                  have hFgb : ¬ F gb := fun e => HM.out.1.dj gb e hgb
                  have hFob : ¬ F ob := fun e => HM.out.2.2.2.2 (.inl e)
                  have hcall := way_turn (i := (kk : Int)) HM.out.1.way.p (hb.keepN HM.out.1.kp) hIa hmm
                  have hst := fun h2 h0 => stB_turn (l := bk) hkb at_ (m := m) h2 h0
                  obtain ⟨s, hs⟩ : ∃ s, bk[kk] = s := ⟨_, rfl⟩
                  rw [hs] at hat hok hob hq0 hq2 hst
                  obtain ⟨As, cs, hvs, -⟩ := hob.readsB.form
                  obtain ⟨L, hL⟩ : ∃ L, s.b.length = L := ⟨_, rfl⟩
                  rw [hvs] at hob hq0
                  rw [hL] at hq0
                  have HS := Lib.hid (And.intro hs (And.intro hok (And.intro hob (And.intro hvs hL))))
                  have hLb : L ≤ 2048 := by rw [← hL]; exact hok.len
                  clear hs hok hob hvs

                  by_cases hsm : s.m = 0
                  · by_cases hm0 : m = 0
                    · subst hm0
                      rw [show turnS (stB bk) (kk : Int) at_ 0 = (1, stB bk) by unfold turnS; rw [hat]; exact if_pos (.inl rfl)] at hcall
                      rw [hsm] at hq2
                      clear hat hst hL hsm
                      go_wp2_with fail
                      refine hcall.mono ?_
                      rintro e w2 ⟨rfl, F2, hX2, hG2, k2⟩
                      have HF := Lib.hid ((HM.out.1.wayOp hX2 hG2 k2).keepN (Kp.refl _ w2).drew)
                      have k2 : Kp F W1 w2 := k2
                      have q0 : w2.cell? ⟨gb, kk * 3, none⟩ = some (.slice As L cs) := by rw [k2.cell hgbl hFgb]; exact hq0
                      have q2 : w2.cell? ⟨gb, kk * 3 + 2, none⟩ = some (.int .u32 ((0 : Nat) : Int)) := by rw [k2.cell hgbl hFgb]; exact hq2
                      have bx2 := HM.out.2.2.2.1.keep k2 hFob
                      have x3 := bx2.c3
                      have x4 := bx2.c4

                      clear hcall hX2 hG2 bx2 q0
                      go_wp2_with fail
                      go_region
                      go_wp2_with fail
                      go_meet
                      case rel => exact ⟨_, _, bk, _, _, _, rfl, HN.out, HF.out, HM.out.2.1⟩

                    · by_cases hin : insideB L at_ m = true
                      · have hcond : ¬ (m = 0 ∨ insideB (nowS s).length at_ m = false) := by
                          rw [nowS_len, hL, hin]
                          rintro (e | e)
                          · exact hm0 e
                          · cases e
                        rw [show turnS (stB bk) (kk : Int) at_ m = (0, stB (bk.set kk { s with at_ := at_, m := m })) by
                          unfold turnS; rw [hat]; dsimp only; rw [if_neg hcond, if_neg (by simp [hsm]), Int.toNat_natCast, hst hm0 hsm]] at hcall
                        have htell := turn_tells (s := s) HS.out.2.1 hm0 hmm (by rw [hL]; exact hin)
                        have hokt := HS.out.2.1.turn hIa hmm (by rw [hL]; exact hin)
                        rw [hsm] at hq2
                        have hmi : ((m : Int) == 0) = false := by simp; omega
                        have hmn : ¬ m = 0 := hm0
                        have hIn : ∀ w, Calls Tryd.prog 21 #[.int .i64 (L : Int), .int .i64 at_, .int .u32 (m : Int)] w fun e w' => e = .returned (.bool true) ∧ w = w' := fun w => by
                          have := inside_c (n := L) (w := w) (by omega) hIa hmm
                          rwa [hin] at this
                        have HT2 := Lib.hid (And.intro htell hokt)
                        clear hat hst hL hsm hcond htell hokt hin hm0
                        go_wp2_with fail
                        refine hcall.mono ?_
                        rintro e w2 ⟨rfl, F2, hX2, hG2, k2⟩
                        have h2 := HM.out.1.wayOp hX2 hG2 k2
                        have k2 : Kp F W1 w2 := k2
                        have q0 : w2.cell? ⟨gb, kk * 3, none⟩ = some (.slice As L cs) := by rw [k2.cell hgbl hFgb]; exact hq0
                        have q2 : w2.cell? ⟨gb, kk * 3 + 2, none⟩ = some (.int .u32 ((0 : Nat) : Int)) := by rw [k2.cell hgbl hFgb]; exact hq2
                        have bx2 := HM.out.2.2.2.1.keep k2 hFob
                        have x3 := bx2.c3
                        have x4 := bx2.c4

                        have H2 := Lib.hid h2
                        have hz2 := k2.size
                        clear hcall hX2 hG2 h2
                        go_wp2_with fail
                        refine rg_begin 30 (fun _ => False) (by kernel_rfl) (fun w4 d4 => ?_)
                        have bx4 := bx2.keep d4 (fun x => x)
                        have p0 : w4.cell? ⟨gb, kk * 3, none⟩ = some (.slice As L cs) := by rw [d4.cell (show gb < w2.heap.size by omega) (fun x => x)]; exact q0
                        have p2 : w4.cell? ⟨gb, kk * 3 + 2, none⟩ = some (.int .u32 0) := by rw [d4.cell (show gb < w2.heap.size by omega) (fun x => x)]; exact q2
                        have hgb4 : gb < w4.heap.size := by have := d4.size; omega
                        refine rg_take 0 (d := (some 171)) (v := .int .i64 0) (by decide) rfl rfl (by kernel_rfl) (by kernel_rfl) (by kernel_rfl) (fun _ _ _ h => h) rfl (fun W => rfl) ?_
                        conv => arg 8; simp only [Act.put, List.setIfInBounds_toArray, List.set_cons_zero, List.set_cons_succ]
                        refine rg_take 1 (d := (some 172)) (v := .bool true) (by decide) rfl rfl (by kernel_rfl) (by kernel_rfl) (by kernel_rfl) (fun _ _ _ h => h) rfl (fun W => by go_simp) ?_
                        conv => arg 8; simp only [Act.put, List.setIfInBounds_toArray, List.set_cons_zero, List.set_cons_succ]
                        refine rg_take 2 (d := (some 173)) (v := .bool true) (by decide) rfl rfl (by kernel_rfl) (by kernel_rfl) (by kernel_rfl) (fun _ _ _ h => h) rfl (fun W => rfl) ?_
                        conv => arg 8; simp only [Act.put, List.setIfInBounds_toArray, List.set_cons_zero, List.set_cons_succ]
                        refine rg_take 3 (d := (some 174)) (v := .bool true) (by decide) rfl rfl (by kernel_rfl) (by kernel_rfl) (by kernel_rfl) (fun _ _ _ h => h) rfl (fun W => rfl) ?_
                        conv => arg 8; simp only [Act.put, List.setIfInBounds_toArray, List.set_cons_zero, List.set_cons_succ]
                        refine rg_take 4 (d := (some 175)) (v := .slice (some ⟨gb, 0, none⟩) N bc') (by decide) rfl rfl (by kernel_rfl) (by kernel_rfl) (by kernel_rfl) (fun _ _ _ h => h) rfl (fun W => rfl) ?_
                        conv => arg 8; simp only [Act.put, List.setIfInBounds_toArray, List.set_cons_zero, List.set_cons_succ]
                        refine rg_take 5 (d := (some 176)) (v := .int .i64 kk) (by decide) rfl rfl (by kernel_rfl) (by kernel_rfl) (by kernel_rfl) (fun _ _ _ h => h) rfl (fun W => rfl) ?_
                        conv => arg 8; simp only [Act.put, List.setIfInBounds_toArray, List.set_cons_zero, List.set_cons_succ]
                        refine rg_take 6 (d := (some 177)) (v := .pointer (some ⟨gb, kk * 3, none⟩)) (by decide) rfl rfl (by kernel_rfl) (by kernel_rfl) (by kernel_rfl) (fun _ _ _ h => h) rfl (fun W => by go_simp) ?_
                        conv => arg 8; simp only [Act.put, List.setIfInBounds_toArray, List.set_cons_zero, List.set_cons_succ]
                        refine rg_take 7 (d := (some 178)) (v := .pointer (some ⟨gb, kk * 3 + 2, none⟩)) (by decide) rfl rfl (by kernel_rfl) (by kernel_rfl) (by kernel_rfl) (fun _ _ _ h => h) rfl (fun W => by go_simp) ?_
                        conv => arg 8; simp only [Act.put, List.setIfInBounds_toArray, List.set_cons_zero, List.set_cons_succ]
                        refine rg_read 8 (d := (some 179)) (v := .int .u32 0) (by decide) (by kernel_rfl) (by kernel_rfl) rfl rfl (by kernel_rfl) (by kernel_rfl) (by kernel_rfl) (fun _ _ _ h => h) rfl (fun W hW => by have hc := (hW.cell (p := ⟨gb, kk * 3 + 2, none⟩) (hgb4) (fun x => x)).trans (p2); go_simp) ?_
                        conv => arg 8; simp only [Act.put, List.setIfInBounds_toArray, List.set_cons_zero, List.set_cons_succ]
                        refine rg_take 9 (d := (some 180)) (v := .bool true) (by decide) rfl rfl (by kernel_rfl) (by kernel_rfl) (by kernel_rfl) (fun _ _ _ h => h) rfl (fun W => by go_simp) ?_
                        conv => arg 8; simp only [Act.put, List.setIfInBounds_toArray, List.set_cons_zero, List.set_cons_succ]
                        refine rg_take 10 (d := (some 181)) (v := .bool true) (by decide) rfl rfl (by kernel_rfl) (by kernel_rfl) (by kernel_rfl) (fun _ _ _ h => h) rfl (fun W => rfl) ?_
                        conv => arg 8; simp only [Act.put, List.setIfInBounds_toArray, List.set_cons_zero, List.set_cons_succ]
                        refine rg_take 11 (d := (some 182)) (v := .bool true) (by decide) rfl rfl (by kernel_rfl) (by kernel_rfl) (by kernel_rfl) (fun _ _ _ h => h) rfl (fun W => rfl) ?_
                        conv => arg 8; simp only [Act.put, List.setIfInBounds_toArray, List.set_cons_zero, List.set_cons_succ]
                        refine rg_take 12 (d := (some 183)) (v := .pointer (some ⟨ob, 4, none⟩)) (by decide) rfl rfl (by kernel_rfl) (by kernel_rfl) (by kernel_rfl) (fun _ _ _ h => h) rfl (fun W => by go_simp) ?_
                        conv => arg 8; simp only [Act.put, List.setIfInBounds_toArray, List.set_cons_zero, List.set_cons_succ]
                        refine rg_read 13 (d := (some 184)) (v := .int .u32 (m : Int)) (by decide) (by kernel_rfl) (by kernel_rfl) rfl rfl (by kernel_rfl) (by kernel_rfl) (by kernel_rfl) (fun _ _ _ h => h) rfl (fun W hW => by have hc := (hW.cell (p := ⟨ob, 4, none⟩) (bx4.lt) (fun x => x)).trans (bx4.c4); go_simp) ?_
                        conv => arg 8; simp only [Act.put, List.setIfInBounds_toArray, List.set_cons_zero, List.set_cons_succ]
                        refine rg_take 14 (d := (some 185)) (v := .bool true) (by decide) rfl rfl (by kernel_rfl) (by kernel_rfl) (by kernel_rfl) (fun _ _ _ h => h) rfl (fun W => by go_simp) ?_
                        conv => arg 8; simp only [Act.put, List.setIfInBounds_toArray, List.set_cons_zero, List.set_cons_succ]
                        refine rg_take 15 (d := (some 186)) (v := .bool true) (by decide) rfl rfl (by kernel_rfl) (by kernel_rfl) (by kernel_rfl) (fun _ _ _ h => h) rfl (fun W => rfl) ?_
                        conv => arg 8; simp only [Act.put, List.setIfInBounds_toArray, List.set_cons_zero, List.set_cons_succ]
                        refine rg_take 16 (d := (some 187)) (v := .bool true) (by decide) rfl rfl (by kernel_rfl) (by kernel_rfl) (by kernel_rfl) (fun _ _ _ h => h) rfl (fun W => rfl) ?_
                        conv => arg 8; simp only [Act.put, List.setIfInBounds_toArray, List.set_cons_zero, List.set_cons_succ]
                        refine rg_take 17 (d := (some 188)) (v := .slice (some ⟨gb, 0, none⟩) N bc') (by decide) rfl rfl (by kernel_rfl) (by kernel_rfl) (by kernel_rfl) (fun _ _ _ h => h) rfl (fun W => rfl) ?_
                        conv => arg 8; simp only [Act.put, List.setIfInBounds_toArray, List.set_cons_zero, List.set_cons_succ]
                        refine rg_take 18 (d := (some 189)) (v := .int .i64 kk) (by decide) rfl rfl (by kernel_rfl) (by kernel_rfl) (by kernel_rfl) (fun _ _ _ h => h) rfl (fun W => rfl) ?_
                        conv => arg 8; simp only [Act.put, List.setIfInBounds_toArray, List.set_cons_zero, List.set_cons_succ]
                        refine rg_take 19 (d := (some 190)) (v := .pointer (some ⟨gb, kk * 3, none⟩)) (by decide) rfl rfl (by kernel_rfl) (by kernel_rfl) (by kernel_rfl) (fun _ _ _ h => h) rfl (fun W => by go_simp) ?_
                        conv => arg 8; simp only [Act.put, List.setIfInBounds_toArray, List.set_cons_zero, List.set_cons_succ]
                        refine rg_take 20 (d := (some 191)) (v := .pointer (some ⟨gb, kk * 3, none⟩)) (by decide) rfl rfl (by kernel_rfl) (by kernel_rfl) (by kernel_rfl) (fun _ _ _ h => h) rfl (fun W => by go_simp) ?_
                        conv => arg 8; simp only [Act.put, List.setIfInBounds_toArray, List.set_cons_zero, List.set_cons_succ]
                        refine rg_read 21 (d := (some 192)) (v := .slice As L cs) (by decide) (by kernel_rfl) (by kernel_rfl) rfl rfl (by kernel_rfl) (by kernel_rfl) (by kernel_rfl) (fun _ _ _ h => h) rfl (fun W hW => by have hc := (hW.cell (p := ⟨gb, kk * 3, none⟩) (hgb4) (fun x => x)).trans (p0); go_simp) ?_
                        conv => arg 8; simp only [Act.put, List.setIfInBounds_toArray, List.set_cons_zero, List.set_cons_succ]
                        refine rg_take 22 (d := (some 193)) (v := .int .i64 L) (by decide) rfl rfl (by kernel_rfl) (by kernel_rfl) (by kernel_rfl) (fun _ _ _ h => h) rfl (fun W => by go_simp) ?_
                        conv => arg 8; simp only [Act.put, List.setIfInBounds_toArray, List.set_cons_zero, List.set_cons_succ]
                        refine rg_take 23 (d := (some 194)) (v := .pointer (some ⟨ob, 3, none⟩)) (by decide) rfl rfl (by kernel_rfl) (by kernel_rfl) (by kernel_rfl) (fun _ _ _ h => h) rfl (fun W => by go_simp) ?_
                        conv => arg 8; simp only [Act.put, List.setIfInBounds_toArray, List.set_cons_zero, List.set_cons_succ]
                        refine rg_read 24 (d := (some 195)) (v := .int .i64 at_) (by decide) (by kernel_rfl) (by kernel_rfl) rfl rfl (by kernel_rfl) (by kernel_rfl) (by kernel_rfl) (fun _ _ _ h => h) rfl (fun W hW => by have hc := (hW.cell (p := ⟨ob, 3, none⟩) (bx4.lt) (fun x => x)).trans (bx4.c3); go_simp) ?_
                        conv => arg 8; simp only [Act.put, List.setIfInBounds_toArray, List.set_cons_zero, List.set_cons_succ]
                        refine rg_take 25 (d := (some 196)) (v := .pointer (some ⟨ob, 4, none⟩)) (by decide) rfl rfl (by kernel_rfl) (by kernel_rfl) (by kernel_rfl) (fun _ _ _ h => h) rfl (fun W => by go_simp) ?_
                        conv => arg 8; simp only [Act.put, List.setIfInBounds_toArray, List.set_cons_zero, List.set_cons_succ]
                        refine rg_read 26 (d := (some 197)) (v := .int .u32 (m : Int)) (by decide) (by kernel_rfl) (by kernel_rfl) rfl rfl (by kernel_rfl) (by kernel_rfl) (by kernel_rfl) (fun _ _ _ h => h) rfl (fun W hW => by have hc := (hW.cell (p := ⟨ob, 4, none⟩) (bx4.lt) (fun x => x)).trans (bx4.c4); go_simp) ?_
                        conv => arg 8; simp only [Act.put, List.setIfInBounds_toArray, List.set_cons_zero, List.set_cons_succ]
                        refine rg_call 27 (d := (some 198)) (by kernel_rfl) (hIn w4) rfl rfl (by kernel_rfl) rfl rfl ?_
                        rintro e w5 ⟨rfl, rfl⟩
                        refine ⟨_, rfl, Kp.refl _ _, ?_⟩
                        conv => arg 8; simp only [Act.put, List.setIfInBounds_toArray, List.set_cons_zero, List.set_cons_succ]
                        refine rg_take 28 (d := (some 199)) (v := .bool true) (by decide) rfl rfl (by kernel_rfl) (by kernel_rfl) (by kernel_rfl) (fun _ _ _ h => h) rfl (fun W => rfl) ?_
                        conv => arg 8; simp only [Act.put, List.setIfInBounds_toArray, List.set_cons_zero, List.set_cons_succ]
                        refine rg_take 29 (d := (some 200)) (v := .bool false) (by decide) rfl rfl (by kernel_rfl) (by kernel_rfl) (by kernel_rfl) (fun _ _ _ h => h) rfl (fun W => by go_simp) ?_
                        conv => arg 8; simp only [Act.put, List.setIfInBounds_toArray, List.set_cons_zero, List.set_cons_succ]
                        refine rg_done (by kernel_rfl) ?_
                        clear q0 q2 x3 x4
                        go_wp2_with fail
                        refine rg_begin 26 (fun _ => False) (by kernel_rfl) (fun w6 d6 => ?_)
                        have bx6 := bx4.keep d6 (fun x => x)
                        have p06 : w6.cell? ⟨gb, kk * 3, none⟩ = some (.slice As L cs) := by rw [d6.cell hgb4 (fun x => x)]; exact p0
                        have p26 : w6.cell? ⟨gb, kk * 3 + 2, none⟩ = some (.int .u32 0) := by rw [d6.cell hgb4 (fun x => x)]; exact p2
                        have hgb6 : gb < w6.heap.size := by have := d6.size; omega
                        have h6 := (H2.out.keepN d4).keepN d6
                        have hrb6 : RdB w6 (.slice As L cs) s.b := by
                          have := h6.book.each _ (List.getElem_mem hkb)
                          rw [HS.out.1, HS.out.2.2.2.1, HS.out.2.2.2.2] at this
                          exact this.readsB
                        have hneq : ¬ (bs (burst s.b at_ m)).toList = (bs s.b).toList := by
                          rw [bs_toList, bs_toList]
                          exact HT2.out.1
                        refine rg_take 0 (d := (some 203)) (v := .slice (some ⟨gb, 0, none⟩) N bc') (by decide) rfl rfl (by kernel_rfl) (by kernel_rfl) (by kernel_rfl) (fun _ _ _ h => h) rfl (fun W => rfl) ?_
                        conv => arg 8; simp only [Act.put, List.setIfInBounds_toArray, List.set_cons_zero, List.set_cons_succ]
                        refine rg_take 1 (d := (some 204)) (v := .int .i64 kk) (by decide) rfl rfl (by kernel_rfl) (by kernel_rfl) (by kernel_rfl) (fun _ _ _ h => h) rfl (fun W => rfl) ?_
                        conv => arg 8; simp only [Act.put, List.setIfInBounds_toArray, List.set_cons_zero, List.set_cons_succ]
                        refine rg_take 2 (d := (some 205)) (v := .pointer (some ⟨gb, kk * 3, none⟩)) (by decide) rfl rfl (by kernel_rfl) (by kernel_rfl) (by kernel_rfl) (fun _ _ _ h => h) rfl (fun W => by go_simp) ?_
                        conv => arg 8; simp only [Act.put, List.setIfInBounds_toArray, List.set_cons_zero, List.set_cons_succ]
                        refine rg_take 3 (d := (some 206)) (v := .pointer (some ⟨gb, kk * 3 + 2, none⟩)) (by decide) rfl rfl (by kernel_rfl) (by kernel_rfl) (by kernel_rfl) (fun _ _ _ h => h) rfl (fun W => by go_simp) ?_
                        conv => arg 8; simp only [Act.put, List.setIfInBounds_toArray, List.set_cons_zero, List.set_cons_succ]
                        refine rg_read 4 (d := (some 207)) (v := .int .u32 0) (by decide) (by kernel_rfl) (by kernel_rfl) rfl rfl (by kernel_rfl) (by kernel_rfl) (by kernel_rfl) (fun _ _ _ h => h) rfl (fun W hW => by have hc := (hW.cell (p := ⟨gb, kk * 3 + 2, none⟩) (hgb6) (fun x => x)).trans (p26); go_simp) ?_
                        conv => arg 8; simp only [Act.put, List.setIfInBounds_toArray, List.set_cons_zero, List.set_cons_succ]
                        refine rg_take 5 (d := (some 208)) (v := .bool false) (by decide) rfl rfl (by kernel_rfl) (by kernel_rfl) (by kernel_rfl) (fun _ _ _ h => h) rfl (fun W => by go_simp) ?_
                        conv => arg 8; simp only [Act.put, List.setIfInBounds_toArray, List.set_cons_zero, List.set_cons_succ]
                        refine rg_take 6 (d := (some 209)) (v := .bool false) (by decide) rfl rfl (by kernel_rfl) (by kernel_rfl) (by kernel_rfl) (fun _ _ _ h => h) rfl (fun W => rfl) ?_
                        conv => arg 8; simp only [Act.put, List.setIfInBounds_toArray, List.set_cons_zero, List.set_cons_succ]
                        refine rg_take 7 (d := (some 210)) (v := .slice (some ⟨gb, 0, none⟩) N bc') (by decide) rfl rfl (by kernel_rfl) (by kernel_rfl) (by kernel_rfl) (fun _ _ _ h => h) rfl (fun W => rfl) ?_
                        conv => arg 8; simp only [Act.put, List.setIfInBounds_toArray, List.set_cons_zero, List.set_cons_succ]
                        refine rg_take 8 (d := (some 211)) (v := .int .i64 kk) (by decide) rfl rfl (by kernel_rfl) (by kernel_rfl) (by kernel_rfl) (fun _ _ _ h => h) rfl (fun W => rfl) ?_
                        conv => arg 8; simp only [Act.put, List.setIfInBounds_toArray, List.set_cons_zero, List.set_cons_succ]
                        refine rg_take 9 (d := (some 212)) (v := .pointer (some ⟨gb, kk * 3, none⟩)) (by decide) rfl rfl (by kernel_rfl) (by kernel_rfl) (by kernel_rfl) (fun _ _ _ h => h) rfl (fun W => by go_simp) ?_
                        conv => arg 8; simp only [Act.put, List.setIfInBounds_toArray, List.set_cons_zero, List.set_cons_succ]
                        refine rg_take 10 (d := (some 213)) (v := .pointer (some ⟨gb, kk * 3, none⟩)) (by decide) rfl rfl (by kernel_rfl) (by kernel_rfl) (by kernel_rfl) (fun _ _ _ h => h) rfl (fun W => by go_simp) ?_
                        conv => arg 8; simp only [Act.put, List.setIfInBounds_toArray, List.set_cons_zero, List.set_cons_succ]
                        refine rg_read 11 (d := (some 214)) (v := .slice As L cs) (by decide) (by kernel_rfl) (by kernel_rfl) rfl rfl (by kernel_rfl) (by kernel_rfl) (by kernel_rfl) (fun _ _ _ h => h) rfl (fun W hW => by have hc := (hW.cell (p := ⟨gb, kk * 3, none⟩) (hgb6) (fun x => x)).trans (p06); go_simp) ?_
                        conv => arg 8; simp only [Act.put, List.setIfInBounds_toArray, List.set_cons_zero, List.set_cons_succ]
                        refine rg_take 12 (d := (some 215)) (v := .pointer (some ⟨ob, 3, none⟩)) (by decide) rfl rfl (by kernel_rfl) (by kernel_rfl) (by kernel_rfl) (fun _ _ _ h => h) rfl (fun W => by go_simp) ?_
                        conv => arg 8; simp only [Act.put, List.setIfInBounds_toArray, List.set_cons_zero, List.set_cons_succ]
                        refine rg_read 13 (d := (some 216)) (v := .int .i64 at_) (by decide) (by kernel_rfl) (by kernel_rfl) rfl rfl (by kernel_rfl) (by kernel_rfl) (by kernel_rfl) (fun _ _ _ h => h) rfl (fun W hW => by have hc := (hW.cell (p := ⟨ob, 3, none⟩) (bx6.lt) (fun x => x)).trans (bx6.c3); go_simp) ?_
                        conv => arg 8; simp only [Act.put, List.setIfInBounds_toArray, List.set_cons_zero, List.set_cons_succ]
                        refine rg_take 14 (d := (some 217)) (v := .pointer (some ⟨ob, 4, none⟩)) (by decide) rfl rfl (by kernel_rfl) (by kernel_rfl) (by kernel_rfl) (fun _ _ _ h => h) rfl (fun W => by go_simp) ?_
                        conv => arg 8; simp only [Act.put, List.setIfInBounds_toArray, List.set_cons_zero, List.set_cons_succ]
                        refine rg_read 15 (d := (some 218)) (v := .int .u32 (m : Int)) (by decide) (by kernel_rfl) (by kernel_rfl) rfl rfl (by kernel_rfl) (by kernel_rfl) (by kernel_rfl) (fun _ _ _ h => h) rfl (fun W hW => by have hc := (hW.cell (p := ⟨ob, 4, none⟩) (bx6.lt) (fun x => x)).trans (bx6.c4); go_simp) ?_
                        conv => arg 8; simp only [Act.put, List.setIfInBounds_toArray, List.set_cons_zero, List.set_cons_succ]
                        refine rg_take 18 (d := (some 221)) (v := .slice (some ⟨gb, 0, none⟩) N bc') (by decide) rfl rfl (by kernel_rfl) (by kernel_rfl) (by kernel_rfl) (fun _ _ _ h => h) rfl (fun W => rfl) ?_
                        conv => arg 8; simp only [Act.put, List.setIfInBounds_toArray, List.set_cons_zero, List.set_cons_succ]
                        refine rg_take 19 (d := (some 222)) (v := .int .i64 kk) (by decide) rfl rfl (by kernel_rfl) (by kernel_rfl) (by kernel_rfl) (fun _ _ _ h => h) rfl (fun W => rfl) ?_
                        conv => arg 8; simp only [Act.put, List.setIfInBounds_toArray, List.set_cons_zero, List.set_cons_succ]
                        refine rg_take 20 (d := (some 223)) (v := .pointer (some ⟨gb, kk * 3, none⟩)) (by decide) rfl rfl (by kernel_rfl) (by kernel_rfl) (by kernel_rfl) (fun _ _ _ h => h) rfl (fun W => by go_simp) ?_
                        conv => arg 8; simp only [Act.put, List.setIfInBounds_toArray, List.set_cons_zero, List.set_cons_succ]
                        refine rg_take 21 (d := (some 224)) (v := .pointer (some ⟨gb, kk * 3, none⟩)) (by decide) rfl rfl (by kernel_rfl) (by kernel_rfl) (by kernel_rfl) (fun _ _ _ h => h) rfl (fun W => by go_simp) ?_
                        conv => arg 8; simp only [Act.put, List.setIfInBounds_toArray, List.set_cons_zero, List.set_cons_succ]
                        refine rg_read 22 (d := (some 225)) (v := .slice As L cs) (by decide) (by kernel_rfl) (by kernel_rfl) rfl rfl (by kernel_rfl) (by kernel_rfl) (by kernel_rfl) (fun _ _ _ h => h) rfl (fun W hW => by have hc := (hW.cell (p := ⟨gb, kk * 3, none⟩) (hgb6) (fun x => x)).trans (p06); go_simp) ?_
                        conv => arg 8; simp only [Act.put, List.setIfInBounds_toArray, List.set_cons_zero, List.set_cons_succ]
                        refine rg_conv 23 (d := (some 226)) (hrb6) (fun _ _ x => x) Tryd.underlying26 Tryd.underlying5 Tryd.underlying9 (by decide) (by kernel_rfl) (by kernel_rfl) rfl rfl (by kernel_rfl) (by kernel_rfl) (by kernel_rfl) (fun _ _ _ h => h) rfl rfl ?_
                        conv => arg 8; simp only [Act.put, List.setIfInBounds_toArray, List.set_cons_zero, List.set_cons_succ]
                        refine rg_call 16 (d := (some 219)) (by kernel_rfl) (burst_c hrb6 hIa hmm (by have := HS.out.2.2.2.2; omega)) rfl rfl (by kernel_rfl) rfl rfl ?_
                        rintro e w7 ⟨u, rfl, ou, k7⟩
                        refine ⟨_, rfl, k7, ?_⟩
                        conv => arg 8; simp only [Act.put, List.setIfInBounds_toArray, List.set_cons_zero, List.set_cons_succ]
                        refine rg_conv1 17 (d := (some 220)) (ou.readsB) Tryd.underlying26 Tryd.underlying5 Tryd.underlying9 rfl rfl (by kernel_rfl) rfl rfl ?_
                        conv => arg 8; simp only [Act.put, List.setIfInBounds_toArray, List.set_cons_zero, List.set_cons_succ]
                        refine rg_take 24 (d := (some 227)) (v := .bool false) (by decide) rfl rfl (by kernel_rfl) (by kernel_rfl) (by kernel_rfl) (fun _ _ _ h => h) rfl (fun W => by go_simp) ?_
                        conv => arg 8; simp only [Act.put, List.setIfInBounds_toArray, List.set_cons_zero, List.set_cons_succ]
                        refine rg_take 25 (d := (some 228)) (v := .bool false) (by decide) rfl rfl (by kernel_rfl) (by kernel_rfl) (by kernel_rfl) (fun _ _ _ h => h) rfl (fun W => rfl) ?_
                        conv => arg 8; simp only [Act.put, List.setIfInBounds_toArray, List.set_cons_zero, List.set_cons_succ]
                        refine rg_done (by kernel_rfl) ?_
                        have h7 := h6.keepN k7
                        have hset := h7.book.set kk hkb at_ m
                        have bx7 := bx6.keep k7 (fun x => x)
                        have y3 := bx7.c3
                        have y4 := bx7.c4
                        have hgb7 : gb < w7.heap.size := Nat.lt_of_lt_of_le hgb6 k7.size
                        have f1 := h7.book.frozenAt (kk * 3 + 1)
                        have f2 := h7.book.frozenAt (kk * 3 + 2)
                        have g1 := h7.book.c1 kk hkb
                        have g2 := h7.book.c2 kk hkb
                        have hobg : ¬ ob = gb := fun e => HM.out.2.2.2.2 (.inr (by rw [e]; exact hgb))
                        have h8 := h7.bookOp hset.1 (fun x hx => .inl hx) (hset.2.mono (fun x _ e => by rw [e]; exact hgb))
                        rw [HS.out.1] at h8 g1 g2
                        have HF := Lib.hid h8
                        have HLN := Lib.hid (show (bk.set kk { s with at_ := at_, m := m }).length = N by rw [List.length_set]; exact HN.out)
                        have HOK := Lib.hid (show ∀ x ∈ bk.set kk { s with at_ := at_, m := m }, OkS x from fun x hx => by
                          rcases List.mem_or_eq_of_mem_set hx with hx | rfl
                          · exact HM.out.2.1 x hx
                          · exact HT2.out.2)
                        clear hset h8 h7 h6 bx7 bx6 bx4 bx2 p0 p2 p06 p26 hrb6 ou k7 hIn hneq
                        go_wp2_with fail
                        go_meet
                        case rel => exact ⟨_, _, _, _, _, _, rfl, HLN.out, HF.out, HOK.out⟩
                      · have hin2 : insideB L at_ m = false := by simpa using hin
                        rw [show turnS (stB bk) (kk : Int) at_ m = (1, stB bk) by unfold turnS; rw [hat]; exact if_pos (.inr (by rw [nowS_len, hL]; exact hin2))] at hcall
                        rw [hsm] at hq2
                        have hmi : ((m : Int) == 0) = false := by simp; omega
                        have hmn : ¬ m = 0 := hm0
                        have hIn : ∀ w, Calls Tryd.prog 21 #[.int .i64 (L : Int), .int .i64 at_, .int .u32 (m : Int)] w fun e w' => e = .returned (.bool false) ∧ w = w' := fun w => by
                          have := inside_c (n := L) (w := w) (by omega) hIa hmm
                          rwa [hin2] at this
                        clear hat hst hL hsm hin hin2 hm0
                        go_wp2_with fail
                        refine hcall.mono ?_
                        rintro e w2 ⟨rfl, F2, hX2, hG2, k2⟩
                        have h2 := HM.out.1.wayOp hX2 hG2 k2
                        have k2 : Kp F W1 w2 := k2
                        have q0 : w2.cell? ⟨gb, kk * 3, none⟩ = some (.slice As L cs) := by rw [k2.cell hgbl hFgb]; exact hq0
                        have q2 : w2.cell? ⟨gb, kk * 3 + 2, none⟩ = some (.int .u32 ((0 : Nat) : Int)) := by rw [k2.cell hgbl hFgb]; exact hq2
                        have bx2 := HM.out.2.2.2.1.keep k2 hFob
                        have x3 := bx2.c3
                        have x4 := bx2.c4

                        have H2 := Lib.hid h2
                        have hz2 := k2.size
                        clear hcall hX2 hG2 h2
                        go_wp2_with fail
                        refine rg_begin 30 (fun _ => False) (by kernel_rfl) (fun w4 d4 => ?_)
                        have bx4 := bx2.keep d4 (fun x => x)
                        have p0 : w4.cell? ⟨gb, kk * 3, none⟩ = some (.slice As L cs) := by rw [d4.cell (show gb < w2.heap.size by omega) (fun x => x)]; exact q0
                        have p2 : w4.cell? ⟨gb, kk * 3 + 2, none⟩ = some (.int .u32 0) := by rw [d4.cell (show gb < w2.heap.size by omega) (fun x => x)]; exact q2
                        have hgb4 : gb < w4.heap.size := by have := d4.size; omega
                        refine rg_take 0 (d := (some 171)) (v := .int .i64 1) (by decide) rfl rfl (by kernel_rfl) (by kernel_rfl) (by kernel_rfl) (fun _ _ _ h => h) rfl (fun W => rfl) ?_
                        conv => arg 8; simp only [Act.put, List.setIfInBounds_toArray, List.set_cons_zero, List.set_cons_succ]
                        refine rg_take 1 (d := (some 172)) (v := .bool false) (by decide) rfl rfl (by kernel_rfl) (by kernel_rfl) (by kernel_rfl) (fun _ _ _ h => h) rfl (fun W => by go_simp) ?_
                        conv => arg 8; simp only [Act.put, List.setIfInBounds_toArray, List.set_cons_zero, List.set_cons_succ]
                        refine rg_take 2 (d := (some 173)) (v := .bool true) (by decide) rfl rfl (by kernel_rfl) (by kernel_rfl) (by kernel_rfl) (fun _ _ _ h => h) rfl (fun W => rfl) ?_
                        conv => arg 8; simp only [Act.put, List.setIfInBounds_toArray, List.set_cons_zero, List.set_cons_succ]
                        refine rg_take 3 (d := (some 174)) (v := .bool true) (by decide) rfl rfl (by kernel_rfl) (by kernel_rfl) (by kernel_rfl) (fun _ _ _ h => h) rfl (fun W => rfl) ?_
                        conv => arg 8; simp only [Act.put, List.setIfInBounds_toArray, List.set_cons_zero, List.set_cons_succ]
                        refine rg_take 4 (d := (some 175)) (v := .slice (some ⟨gb, 0, none⟩) N bc') (by decide) rfl rfl (by kernel_rfl) (by kernel_rfl) (by kernel_rfl) (fun _ _ _ h => h) rfl (fun W => rfl) ?_
                        conv => arg 8; simp only [Act.put, List.setIfInBounds_toArray, List.set_cons_zero, List.set_cons_succ]
                        refine rg_take 5 (d := (some 176)) (v := .int .i64 kk) (by decide) rfl rfl (by kernel_rfl) (by kernel_rfl) (by kernel_rfl) (fun _ _ _ h => h) rfl (fun W => rfl) ?_
                        conv => arg 8; simp only [Act.put, List.setIfInBounds_toArray, List.set_cons_zero, List.set_cons_succ]
                        refine rg_take 6 (d := (some 177)) (v := .pointer (some ⟨gb, kk * 3, none⟩)) (by decide) rfl rfl (by kernel_rfl) (by kernel_rfl) (by kernel_rfl) (fun _ _ _ h => h) rfl (fun W => by go_simp) ?_
                        conv => arg 8; simp only [Act.put, List.setIfInBounds_toArray, List.set_cons_zero, List.set_cons_succ]
                        refine rg_take 7 (d := (some 178)) (v := .pointer (some ⟨gb, kk * 3 + 2, none⟩)) (by decide) rfl rfl (by kernel_rfl) (by kernel_rfl) (by kernel_rfl) (fun _ _ _ h => h) rfl (fun W => by go_simp) ?_
                        conv => arg 8; simp only [Act.put, List.setIfInBounds_toArray, List.set_cons_zero, List.set_cons_succ]
                        refine rg_read 8 (d := (some 179)) (v := .int .u32 0) (by decide) (by kernel_rfl) (by kernel_rfl) rfl rfl (by kernel_rfl) (by kernel_rfl) (by kernel_rfl) (fun _ _ _ h => h) rfl (fun W hW => by have hc := (hW.cell (p := ⟨gb, kk * 3 + 2, none⟩) (hgb4) (fun x => x)).trans (p2); go_simp) ?_
                        conv => arg 8; simp only [Act.put, List.setIfInBounds_toArray, List.set_cons_zero, List.set_cons_succ]
                        refine rg_take 9 (d := (some 180)) (v := .bool true) (by decide) rfl rfl (by kernel_rfl) (by kernel_rfl) (by kernel_rfl) (fun _ _ _ h => h) rfl (fun W => by go_simp) ?_
                        conv => arg 8; simp only [Act.put, List.setIfInBounds_toArray, List.set_cons_zero, List.set_cons_succ]
                        refine rg_take 10 (d := (some 181)) (v := .bool true) (by decide) rfl rfl (by kernel_rfl) (by kernel_rfl) (by kernel_rfl) (fun _ _ _ h => h) rfl (fun W => rfl) ?_
                        conv => arg 8; simp only [Act.put, List.setIfInBounds_toArray, List.set_cons_zero, List.set_cons_succ]
                        refine rg_take 11 (d := (some 182)) (v := .bool true) (by decide) rfl rfl (by kernel_rfl) (by kernel_rfl) (by kernel_rfl) (fun _ _ _ h => h) rfl (fun W => rfl) ?_
                        conv => arg 8; simp only [Act.put, List.setIfInBounds_toArray, List.set_cons_zero, List.set_cons_succ]
                        refine rg_take 12 (d := (some 183)) (v := .pointer (some ⟨ob, 4, none⟩)) (by decide) rfl rfl (by kernel_rfl) (by kernel_rfl) (by kernel_rfl) (fun _ _ _ h => h) rfl (fun W => by go_simp) ?_
                        conv => arg 8; simp only [Act.put, List.setIfInBounds_toArray, List.set_cons_zero, List.set_cons_succ]
                        refine rg_read 13 (d := (some 184)) (v := .int .u32 (m : Int)) (by decide) (by kernel_rfl) (by kernel_rfl) rfl rfl (by kernel_rfl) (by kernel_rfl) (by kernel_rfl) (fun _ _ _ h => h) rfl (fun W hW => by have hc := (hW.cell (p := ⟨ob, 4, none⟩) (bx4.lt) (fun x => x)).trans (bx4.c4); go_simp) ?_
                        conv => arg 8; simp only [Act.put, List.setIfInBounds_toArray, List.set_cons_zero, List.set_cons_succ]
                        refine rg_take 14 (d := (some 185)) (v := .bool true) (by decide) rfl rfl (by kernel_rfl) (by kernel_rfl) (by kernel_rfl) (fun _ _ _ h => h) rfl (fun W => by go_simp) ?_
                        conv => arg 8; simp only [Act.put, List.setIfInBounds_toArray, List.set_cons_zero, List.set_cons_succ]
                        refine rg_take 15 (d := (some 186)) (v := .bool true) (by decide) rfl rfl (by kernel_rfl) (by kernel_rfl) (by kernel_rfl) (fun _ _ _ h => h) rfl (fun W => rfl) ?_
                        conv => arg 8; simp only [Act.put, List.setIfInBounds_toArray, List.set_cons_zero, List.set_cons_succ]
                        refine rg_take 16 (d := (some 187)) (v := .bool true) (by decide) rfl rfl (by kernel_rfl) (by kernel_rfl) (by kernel_rfl) (fun _ _ _ h => h) rfl (fun W => rfl) ?_
                        conv => arg 8; simp only [Act.put, List.setIfInBounds_toArray, List.set_cons_zero, List.set_cons_succ]
                        refine rg_take 17 (d := (some 188)) (v := .slice (some ⟨gb, 0, none⟩) N bc') (by decide) rfl rfl (by kernel_rfl) (by kernel_rfl) (by kernel_rfl) (fun _ _ _ h => h) rfl (fun W => rfl) ?_
                        conv => arg 8; simp only [Act.put, List.setIfInBounds_toArray, List.set_cons_zero, List.set_cons_succ]
                        refine rg_take 18 (d := (some 189)) (v := .int .i64 kk) (by decide) rfl rfl (by kernel_rfl) (by kernel_rfl) (by kernel_rfl) (fun _ _ _ h => h) rfl (fun W => rfl) ?_
                        conv => arg 8; simp only [Act.put, List.setIfInBounds_toArray, List.set_cons_zero, List.set_cons_succ]
                        refine rg_take 19 (d := (some 190)) (v := .pointer (some ⟨gb, kk * 3, none⟩)) (by decide) rfl rfl (by kernel_rfl) (by kernel_rfl) (by kernel_rfl) (fun _ _ _ h => h) rfl (fun W => by go_simp) ?_
                        conv => arg 8; simp only [Act.put, List.setIfInBounds_toArray, List.set_cons_zero, List.set_cons_succ]
                        refine rg_take 20 (d := (some 191)) (v := .pointer (some ⟨gb, kk * 3, none⟩)) (by decide) rfl rfl (by kernel_rfl) (by kernel_rfl) (by kernel_rfl) (fun _ _ _ h => h) rfl (fun W => by go_simp) ?_
                        conv => arg 8; simp only [Act.put, List.setIfInBounds_toArray, List.set_cons_zero, List.set_cons_succ]
                        refine rg_read 21 (d := (some 192)) (v := .slice As L cs) (by decide) (by kernel_rfl) (by kernel_rfl) rfl rfl (by kernel_rfl) (by kernel_rfl) (by kernel_rfl) (fun _ _ _ h => h) rfl (fun W hW => by have hc := (hW.cell (p := ⟨gb, kk * 3, none⟩) (hgb4) (fun x => x)).trans (p0); go_simp) ?_
                        conv => arg 8; simp only [Act.put, List.setIfInBounds_toArray, List.set_cons_zero, List.set_cons_succ]
                        refine rg_take 22 (d := (some 193)) (v := .int .i64 L) (by decide) rfl rfl (by kernel_rfl) (by kernel_rfl) (by kernel_rfl) (fun _ _ _ h => h) rfl (fun W => by go_simp) ?_
                        conv => arg 8; simp only [Act.put, List.setIfInBounds_toArray, List.set_cons_zero, List.set_cons_succ]
                        refine rg_take 23 (d := (some 194)) (v := .pointer (some ⟨ob, 3, none⟩)) (by decide) rfl rfl (by kernel_rfl) (by kernel_rfl) (by kernel_rfl) (fun _ _ _ h => h) rfl (fun W => by go_simp) ?_
                        conv => arg 8; simp only [Act.put, List.setIfInBounds_toArray, List.set_cons_zero, List.set_cons_succ]
                        refine rg_read 24 (d := (some 195)) (v := .int .i64 at_) (by decide) (by kernel_rfl) (by kernel_rfl) rfl rfl (by kernel_rfl) (by kernel_rfl) (by kernel_rfl) (fun _ _ _ h => h) rfl (fun W hW => by have hc := (hW.cell (p := ⟨ob, 3, none⟩) (bx4.lt) (fun x => x)).trans (bx4.c3); go_simp) ?_
                        conv => arg 8; simp only [Act.put, List.setIfInBounds_toArray, List.set_cons_zero, List.set_cons_succ]
                        refine rg_take 25 (d := (some 196)) (v := .pointer (some ⟨ob, 4, none⟩)) (by decide) rfl rfl (by kernel_rfl) (by kernel_rfl) (by kernel_rfl) (fun _ _ _ h => h) rfl (fun W => by go_simp) ?_
                        conv => arg 8; simp only [Act.put, List.setIfInBounds_toArray, List.set_cons_zero, List.set_cons_succ]
                        refine rg_read 26 (d := (some 197)) (v := .int .u32 (m : Int)) (by decide) (by kernel_rfl) (by kernel_rfl) rfl rfl (by kernel_rfl) (by kernel_rfl) (by kernel_rfl) (fun _ _ _ h => h) rfl (fun W hW => by have hc := (hW.cell (p := ⟨ob, 4, none⟩) (bx4.lt) (fun x => x)).trans (bx4.c4); go_simp) ?_
                        conv => arg 8; simp only [Act.put, List.setIfInBounds_toArray, List.set_cons_zero, List.set_cons_succ]
                        refine rg_call 27 (d := (some 198)) (by kernel_rfl) (hIn w4) rfl rfl (by kernel_rfl) rfl rfl ?_
                        rintro e w5 ⟨rfl, rfl⟩
                        refine ⟨_, rfl, Kp.refl _ _, ?_⟩
                        conv => arg 8; simp only [Act.put, List.setIfInBounds_toArray, List.set_cons_zero, List.set_cons_succ]
                        refine rg_take 28 (d := (some 199)) (v := .bool false) (by decide) rfl rfl (by kernel_rfl) (by kernel_rfl) (by kernel_rfl) (fun _ _ _ h => h) rfl (fun W => rfl) ?_
                        conv => arg 8; simp only [Act.put, List.setIfInBounds_toArray, List.set_cons_zero, List.set_cons_succ]
                        refine rg_take 29 (d := (some 200)) (v := .bool false) (by decide) rfl rfl (by kernel_rfl) (by kernel_rfl) (by kernel_rfl) (fun _ _ _ h => h) rfl (fun W => by go_simp) ?_
                        conv => arg 8; simp only [Act.put, List.setIfInBounds_toArray, List.set_cons_zero, List.set_cons_succ]
                        refine rg_done (by kernel_rfl) ?_
                        have HF := Lib.hid (H2.out.keepN d4)
                        clear q0 q2 x3 x4 bx4 bx2 p0 p2 hIn
                        go_wp2_with fail
                        go_meet
                        case rel => exact ⟨_, _, bk, _, _, _, rfl, HN.out, HF.out, HM.out.2.1⟩

                  · obtain ⟨z, hz, hcall2⟩ : ∃ z : Nat, z ≠ 0 ∧ turnS (stB bk) (kk : Int) at_ m = (z, stB bk) := by
                      unfold turnS
                      rw [hat]
                      dsimp only
                      split
                      · exact ⟨1, by omega, rfl⟩
                      · rw [if_pos (by simp [hsm])]
                        exact ⟨3, by omega, rfl⟩
                    rw [hcall2] at hcall
                    have hzi : ((z : Int) == 0) = false := by simp; omega
                    have hsi : ((s.m : Int) == 0) = false := by simp; omega
                    generalize s.m = sm at *
                    clear hat hst hL hsm hcall2 hz
                    go_wp2_with fail
                    refine hcall.mono ?_
                    rintro e w2 ⟨rfl, F2, hX2, hG2, k2⟩
                    have HF := Lib.hid ((HM.out.1.wayOp hX2 hG2 k2).keepN (Kp.refl _ w2).drew)
                    have k2 : Kp F W1 w2 := k2
                    have q0 : w2.cell? ⟨gb, kk * 3, none⟩ = some (.slice As L cs) := by rw [k2.cell hgbl hFgb]; exact hq0
                    have q2 : w2.cell? ⟨gb, kk * 3 + 2, none⟩ = some (.int .u32 (sm : Int)) := by rw [k2.cell hgbl hFgb]; exact hq2
                    have bx2 := HM.out.2.2.2.1.keep k2 hFob
                    have x3 := bx2.c3
                    have x4 := bx2.c4

                    clear hcall hX2 hG2 bx2 q0
                    go_wp2_with fail
                    go_region
                    go_wp2_with fail
                    go_meet
                    case rel => exact ⟨_, _, bk, _, _, _, rfl, HN.out, HF.out, HM.out.2.1⟩
          by_cases hk3 : k = 3
          · as_aux_lemma =>
              subst hk3
              rcases th with _ | _
              · as_aux_lemma =>
                  have hN0 := HTH.out.1 rfl
                  have hnone : atS (stB bk) i = none := by
                    rw [List.eq_nil_of_length_eq_zero (HN.out.trans hN0)]
                    unfold atS
                    split
                    · rfl
                    · rfl
                  obtain rfl : i = KK := (HKK.out.1 hN0).symm
                  have hN0' : ((N : Int) : Int) = 0 := by omega
                  have hN0n : N ≤ 0 := by omega
                  have HN0 := Lib.hid hN0
                  clear hN0 hN0'
                  have hcall := way_take_out HM.out.1.way.p hnone
                  go_wp2_with fail
                  refine hcall.mono ?_
                  rintro e w2 ⟨rfl, k2⟩
                  have HF := Lib.hid (HM.out.1.keepN k2)
                  clear hcall
                  go_wp2_with fail
                  go_meet
                  case rel => exact ⟨_, _, bk, _, _, _, rfl, HN.out, HF.out, HM.out.2.1⟩
              · as_aux_lemma =>
                  have hNp0 := HTH.out.2 rfl
                  obtain ⟨kk, hkk0, hkl, -⟩ := HKK.out.2 hNp0
                  subst hkk0
                  have hNp : (0 : Int) < (N : Int) := by omega
                  have hkb : kk < bk.length := by rw [HN.out]; exact hkl
                  have hbnd : n ≤ 1024 := hn1.2
                  have hNn := HM.out.2.2.1
                  clear hNp0

                  obtain ⟨gb, cb, hvb, hgb, hcb⟩ := HM.out.1.book.form (by omega)
                  injection hvb with e1 e2 e3
                  subst e1 e3
                  clear e2
                  have hok := HM.out.2.1 _ (List.getElem_mem hkb)
                  have hob := HM.out.1.book.each _ (List.getElem_mem hkb)
                  have hgbl : gb < W1.heap.size := HM.out.1.book.row.lt gb rfl
                  have hFgb : ¬ F gb := fun e => HM.out.1.dj gb e hgb
                  have hcall := way_take (j := kk) HM.out.1.way.p (by rw [stB_len]; exact hkb)
                  rw [stB_get bk kk hkb, stB_erase] at hcall
                  dsimp only at hcall
                  obtain ⟨s, hs⟩ : ∃ s, bk[kk] = s := ⟨_, rfl⟩
                  rw [hs] at hok hob hcall
                  obtain ⟨As, cs, hvs, -⟩ := hob.readsB.form
                  obtain ⟨L, hL⟩ : ∃ L, s.b.length = L := ⟨_, rfl⟩
                  obtain ⟨sat, hsat⟩ : ∃ z, s.at_ = z := ⟨_, rfl⟩
                  obtain ⟨sm, hsm⟩ : ∃ z, s.m = z := ⟨_, rfl⟩
                  obtain ⟨X, hX⟩ : ∃ X, nowS s = X := ⟨_, rfl⟩
                  rw [hX] at hcall
                  have hXl : X.length = s.b.length := by rw [← hX]; exact nowS_len s
                  have hlb := hok.len
                  have hnow : ∀ w, RdB w (.slice As L cs) s.b → Calls Tryd.prog 23 #[.agg #[.slice As L cs, .int .i64 sat, .int .u32 (sm : Int)]] w (GotB 5 w X) := fun w h => by
                    rw [← hX, ← hsat, ← hsm]
                    exact now_c h hok.hat hok.hm (by omega)
                  have hwh : sm = 0 → unsealS X = unsealS s.b ∧ (unsealS X).2 = 0 := fun e => by
                    have e0 : s.m = 0 := by rw [hsm]; exact e
                    have := now_whole hok e0
                    rw [nowS_zero e0] at hX this
                    rw [← hX]
                    exact ⟨rfl, this⟩
                  have hte : sm ≠ 0 → (unsealS X).2 ≠ 0 := fun e => by
                    rw [← hX]
                    exact now_tells hok (by rw [hsm]; exact e)
                  have hLl : L ≤ 2048 := by omega
                  have hXb : X.length ≤ 2048 := by omega
                  have hob' : OwB W1 5 B (.slice As L cs) s.b := by rw [← hL, ← hvs]; exact hob
                  have HS := Lib.hid (And.intro hs (And.intro hob' (And.intro hnow (And.intro hvs (And.intro hL (And.intro hsat hsm))))))
                  clear hs hok hob hvs hL hsat hsm hX hXl hlb hob' hnow
                  go_wp2_with fail
                  refine hcall.mono ?_
                  rintro e w2 ⟨u, rfl, ou, hX2, k2⟩
                  have h2 := HM.out.1.wayOp hX2 (Gr.refl _ _ _) k2
                  have hU := unseal_c ou.readsB (ht.keepN h2.kp) (by omega)
                  have H2 := Lib.hid h2
                  have HU := Lib.hid ou.readsB
                  clear hcall hX2 h2 ou
                  have hz2 := k2.size
                  have row2 : ∀ w, KpN w2 w → RowAt w ⟨gb, kk * 3, none⟩ [.slice As L cs, .int .i64 sat, .int .u32 (sm : Int)] := fun w k j v hj => by
                    have hbk := H2.out.keepN k
                    match j, hj with
                    | 0, hj => simp at hj; subst hj; have := hbk.book.c0 kk hkb; rw [HS.out.1, HS.out.2.2.2.1, HS.out.2.2.2.2.1] at this; exact this
                    | 1, hj => simp at hj; subst hj; have := hbk.book.c1 kk hkb; rw [HS.out.1, HS.out.2.2.2.2.2.1] at this; exact this
                    | 2, hj => simp at hj; subst hj; have := hbk.book.c2 kk hkb; rw [HS.out.1, HS.out.2.2.2.2.2.2] at this; exact this
                  have rb2 : ∀ w, KpN w2 w → RdB w (.slice As L cs) s.b := fun w k => (HS.out.2.1.keep k2 (fun i h1 h2 => HM.out.1.dj i h2 h1)).readsB.keepN k
                  have HR := Lib.hid (And.intro row2 rb2)
                  clear row2 rb2
                  go_wp2_with fail
                  refine hU.mono ?_
                  rintro e w3 ⟨c1, rfl, oc1, k3⟩
                  have q03 : w3.cell? ⟨gb, kk * 3, none⟩ = some (.slice As L cs) := HR.out.1 w3 k3 0 _ rfl
                  have hV := unseal_c (HR.out.2 w3 k3) (ht.keepN (H2.out.keepN k3).kp) (by have := HS.out.2.2.2.2.1; omega)
                  have HC1 := Lib.hid oc1.readsB
                  clear hU oc1
                  go_wp2_with fail
                  refine hV.mono ?_
                  rintro e w4 ⟨c2, rfl, oc2, k4⟩
                  have HC2 := Lib.hid oc2.readsB
                  have HK := Lib.hid (And.intro k3 k4)
                  clear hV oc2 q03
                  have hgb4 : gb < w4.heap.size := by have := k3.size; have := k4.size; omega

                  by_cases hsm0 : sm = 0
                  · subst hsm0
                    obtain ⟨y, hy⟩ : ∃ y, unsealS s.b = (y, 0) := ⟨(unsealS s.b).1, by rw [← (hwh rfl).1, ← (hwh rfl).2]⟩
                    rw [(hwh rfl).1, hy] at HC1 ⊢
                    rw [hy] at HC2
                    dsimp only at HC1 HC2 ⊢
                    clear hwh hte hy
                    go_wp2_with fail
                    refine rg_begin 31 (fun _ => False) (by kernel_rfl) (fun w5 d5 => ?_)
                    have kA := HK.out.2.thenN d5
                    have kB := HK.out.1.thenN kA
                    have hgb5 : gb < w5.heap.size := by have := d5.size; omega
                    have row5 := HR.out.1 w5 kB
                    have m5 : w5.cell? ⟨gb, kk * 3 + 2, none⟩ = some (.int .u32 0) := row5 2 _ rfl
                    refine rg_take 0 (d := (some 268)) (v := u) (by decide) rfl rfl (by kernel_rfl) (by kernel_rfl) (by kernel_rfl) (fun _ _ _ h => h) rfl (fun W => rfl) ?_
                    conv => arg 8; simp only [Act.put, List.setIfInBounds_toArray, List.set_cons_zero, List.set_cons_succ]
                    refine rg_conv 1 (d := (some 269)) (HU.out.keepN kB) (fun _ _ x => x) Tryd.underlying26 Tryd.underlying5 Tryd.underlying9 (by decide) (by kernel_rfl) (by kernel_rfl) rfl rfl (by kernel_rfl) (by kernel_rfl) (by kernel_rfl) (fun _ _ _ h => h) rfl rfl ?_
                    conv => arg 8; simp only [Act.put, List.setIfInBounds_toArray, List.set_cons_zero, List.set_cons_succ]
                    refine rg_take 2 (d := (some 270)) (v := .slice (some ⟨gb, 0, none⟩) N bc') (by decide) rfl rfl (by kernel_rfl) (by kernel_rfl) (by kernel_rfl) (fun _ _ _ h => h) rfl (fun W => rfl) ?_
                    conv => arg 8; simp only [Act.put, List.setIfInBounds_toArray, List.set_cons_zero, List.set_cons_succ]
                    refine rg_take 3 (d := (some 271)) (v := .int .i64 kk) (by decide) rfl rfl (by kernel_rfl) (by kernel_rfl) (by kernel_rfl) (fun _ _ _ h => h) rfl (fun W => rfl) ?_
                    conv => arg 8; simp only [Act.put, List.setIfInBounds_toArray, List.set_cons_zero, List.set_cons_succ]
                    refine rg_take 4 (d := (some 272)) (v := .pointer (some ⟨gb, kk * 3, none⟩)) (by decide) rfl rfl (by kernel_rfl) (by kernel_rfl) (by kernel_rfl) (fun _ _ _ h => h) rfl (fun W => by go_simp) ?_
                    conv => arg 8; simp only [Act.put, List.setIfInBounds_toArray, List.set_cons_zero, List.set_cons_succ]
                    refine rg_read 5 (d := (some 273)) (v := .agg #[.slice As L cs, .int .i64 sat, .int .u32 0]) (by decide) (by kernel_rfl) (by kernel_rfl) rfl rfl (by kernel_rfl) (by kernel_rfl) (by kernel_rfl) (fun _ _ _ h => h) rfl (fun W hW => by exact run_load_op (row5.keep hW (fun x => x)) rfl Tryd.underlying56 rfl (show (Tryd.prog.info? ST).map (·.size) = some 3 by kernel_rfl)) ?_
                    conv => arg 8; simp only [Act.put, List.setIfInBounds_toArray, List.set_cons_zero, List.set_cons_succ]
                    refine rg_call 6 (d := (some 274)) (by kernel_rfl) (HS.out.2.2.1 w5 (HR.out.2 w5 kB)) rfl rfl (by kernel_rfl) rfl rfl ?_
                    rintro e w6 ⟨v, rfl, ov, k6⟩
                    refine ⟨_, rfl, k6, ?_⟩
                    conv => arg 8; simp only [Act.put, List.setIfInBounds_toArray, List.set_cons_zero, List.set_cons_succ]
                    refine rg_conv1 7 (d := (some 275)) (ov.readsB) Tryd.underlying26 Tryd.underlying5 Tryd.underlying9 rfl rfl (by kernel_rfl) rfl rfl ?_
                    conv => arg 8; simp only [Act.put, List.setIfInBounds_toArray, List.set_cons_zero, List.set_cons_succ]
                    refine rg_take 8 (d := (some 276)) (v := .bool false) (by decide) rfl rfl (by kernel_rfl) (by kernel_rfl) (by kernel_rfl) (fun _ _ _ h => h) rfl (fun W => by go_simp) ?_
                    conv => arg 8; simp only [Act.put, List.setIfInBounds_toArray, List.set_cons_zero, List.set_cons_succ]
                    refine rg_take 9 (d := (some 277)) (v := .bool false) (by decide) rfl rfl (by kernel_rfl) (by kernel_rfl) (by kernel_rfl) (fun _ _ _ h => h) rfl (fun W => rfl) ?_
                    conv => arg 8; simp only [Act.put, List.setIfInBounds_toArray, List.set_cons_zero, List.set_cons_succ]
                    refine rg_take 10 (d := (some 278)) (v := .int .i64 0) (by decide) rfl rfl (by kernel_rfl) (by kernel_rfl) (by kernel_rfl) (fun _ _ _ h => h) rfl (fun W => rfl) ?_
                    conv => arg 8; simp only [Act.put, List.setIfInBounds_toArray, List.set_cons_zero, List.set_cons_succ]
                    refine rg_take 11 (d := (some 279)) (v := .bool true) (by decide) rfl rfl (by kernel_rfl) (by kernel_rfl) (by kernel_rfl) (fun _ _ _ h => h) rfl (fun W => by go_simp) ?_
                    conv => arg 8; simp only [Act.put, List.setIfInBounds_toArray, List.set_cons_zero, List.set_cons_succ]
                    refine rg_take 12 (d := (some 280)) (v := .slice (some ⟨gb, 0, none⟩) N bc') (by decide) rfl rfl (by kernel_rfl) (by kernel_rfl) (by kernel_rfl) (fun _ _ _ h => h) rfl (fun W => rfl) ?_
                    conv => arg 8; simp only [Act.put, List.setIfInBounds_toArray, List.set_cons_zero, List.set_cons_succ]
                    refine rg_take 13 (d := (some 281)) (v := .int .i64 kk) (by decide) rfl rfl (by kernel_rfl) (by kernel_rfl) (by kernel_rfl) (fun _ _ _ h => h) rfl (fun W => rfl) ?_
                    conv => arg 8; simp only [Act.put, List.setIfInBounds_toArray, List.set_cons_zero, List.set_cons_succ]
                    refine rg_take 14 (d := (some 282)) (v := .pointer (some ⟨gb, kk * 3, none⟩)) (by decide) rfl rfl (by kernel_rfl) (by kernel_rfl) (by kernel_rfl) (fun _ _ _ h => h) rfl (fun W => by go_simp) ?_
                    conv => arg 8; simp only [Act.put, List.setIfInBounds_toArray, List.set_cons_zero, List.set_cons_succ]
                    refine rg_take 15 (d := (some 283)) (v := .pointer (some ⟨gb, kk * 3 + 2, none⟩)) (by decide) rfl rfl (by kernel_rfl) (by kernel_rfl) (by kernel_rfl) (fun _ _ _ h => h) rfl (fun W => by go_simp) ?_
                    conv => arg 8; simp only [Act.put, List.setIfInBounds_toArray, List.set_cons_zero, List.set_cons_succ]
                    refine rg_read 16 (d := (some 284)) (v := .int .u32 0) (by decide) (by kernel_rfl) (by kernel_rfl) rfl rfl (by kernel_rfl) (by kernel_rfl) (by kernel_rfl) (fun _ _ _ h => h) rfl (fun W hW => by have hc := (hW.cell (p := ⟨gb, kk * 3 + 2, none⟩) (Nat.lt_of_lt_of_le hgb5 k6.size) (fun x => x)).trans ((k6.cell hgb5 (fun x => x)).trans m5); go_simp) ?_
                    conv => arg 8; simp only [Act.put, List.setIfInBounds_toArray, List.set_cons_zero, List.set_cons_succ]
                    refine rg_take 17 (d := (some 285)) (v := .bool true) (by decide) rfl rfl (by kernel_rfl) (by kernel_rfl) (by kernel_rfl) (fun _ _ _ h => h) rfl (fun W => by go_simp) ?_
                    conv => arg 8; simp only [Act.put, List.setIfInBounds_toArray, List.set_cons_zero, List.set_cons_succ]
                    refine rg_take 18 (d := (some 286)) (v := .bool false) (by decide) rfl rfl (by kernel_rfl) (by kernel_rfl) (by kernel_rfl) (fun _ _ _ h => h) rfl (fun W => by go_simp) ?_
                    conv => arg 8; simp only [Act.put, List.setIfInBounds_toArray, List.set_cons_zero, List.set_cons_succ]
                    refine rg_take 19 (d := (some 287)) (v := .bool false) (by decide) rfl rfl (by kernel_rfl) (by kernel_rfl) (by kernel_rfl) (fun _ _ _ h => h) rfl (fun W => rfl) ?_
                    conv => arg 8; simp only [Act.put, List.setIfInBounds_toArray, List.set_cons_zero, List.set_cons_succ]
                    refine rg_take 20 (d := (some 288)) (v := .bool false) (by decide) rfl rfl (by kernel_rfl) (by kernel_rfl) (by kernel_rfl) (fun _ _ _ h => h) rfl (fun W => rfl) ?_
                    conv => arg 8; simp only [Act.put, List.setIfInBounds_toArray, List.set_cons_zero, List.set_cons_succ]
                    refine rg_take 21 (d := (some 289)) (v := .int .i64 0) (by decide) rfl rfl (by kernel_rfl) (by kernel_rfl) (by kernel_rfl) (fun _ _ _ h => h) rfl (fun W => rfl) ?_
                    conv => arg 8; simp only [Act.put, List.setIfInBounds_toArray, List.set_cons_zero, List.set_cons_succ]
                    refine rg_take 22 (d := (some 290)) (v := .bool true) (by decide) rfl rfl (by kernel_rfl) (by kernel_rfl) (by kernel_rfl) (fun _ _ _ h => h) rfl (fun W => by go_simp) ?_
                    conv => arg 8; simp only [Act.put, List.setIfInBounds_toArray, List.set_cons_zero, List.set_cons_succ]
                    refine rg_take 23 (d := (some 291)) (v := .bool true) (by decide) rfl rfl (by kernel_rfl) (by kernel_rfl) (by kernel_rfl) (fun _ _ _ h => h) rfl (fun W => rfl) ?_
                    conv => arg 8; simp only [Act.put, List.setIfInBounds_toArray, List.set_cons_zero, List.set_cons_succ]
                    refine rg_take 24 (d := (some 292)) (v := c1) (by decide) rfl rfl (by kernel_rfl) (by kernel_rfl) (by kernel_rfl) (fun _ _ _ h => h) rfl (fun W => rfl) ?_
                    conv => arg 8; simp only [Act.put, List.setIfInBounds_toArray, List.set_cons_zero, List.set_cons_succ]
                    refine rg_conv 25 (d := (some 293)) ((HC1.out.keepN kA).keepN k6) (fun _ _ x => x) Tryd.underlying26 Tryd.underlying5 Tryd.underlying9 (by decide) (by kernel_rfl) (by kernel_rfl) rfl rfl (by kernel_rfl) (by kernel_rfl) (by kernel_rfl) (fun _ _ _ h => h) rfl rfl ?_
                    conv => arg 8; simp only [Act.put, List.setIfInBounds_toArray, List.set_cons_zero, List.set_cons_succ]
                    refine rg_take 26 (d := (some 294)) (v := c2) (by decide) rfl rfl (by kernel_rfl) (by kernel_rfl) (by kernel_rfl) (fun _ _ _ h => h) rfl (fun W => rfl) ?_
                    conv => arg 8; simp only [Act.put, List.setIfInBounds_toArray, List.set_cons_zero, List.set_cons_succ]
                    refine rg_conv1 27 (d := (some 295)) ((HC2.out.keepN d5).keepN k6) Tryd.underlying26 Tryd.underlying5 Tryd.underlying9 rfl rfl (by kernel_rfl) rfl rfl ?_
                    conv => arg 8; simp only [Act.put, List.setIfInBounds_toArray, List.set_cons_zero, List.set_cons_succ]
                    refine rg_take 28 (d := (some 296)) (v := .bool false) (by decide) rfl rfl (by kernel_rfl) (by kernel_rfl) (by kernel_rfl) (fun _ _ _ h => h) rfl (fun W => by go_simp) ?_
                    conv => arg 8; simp only [Act.put, List.setIfInBounds_toArray, List.set_cons_zero, List.set_cons_succ]
                    refine rg_take 29 (d := (some 297)) (v := .bool false) (by decide) rfl rfl (by kernel_rfl) (by kernel_rfl) (by kernel_rfl) (fun _ _ _ h => h) rfl (fun W => rfl) ?_
                    conv => arg 8; simp only [Act.put, List.setIfInBounds_toArray, List.set_cons_zero, List.set_cons_succ]
                    refine rg_take 30 (d := (some 298)) (v := .bool false) (by decide) rfl rfl (by kernel_rfl) (by kernel_rfl) (by kernel_rfl) (fun _ _ _ h => h) rfl (fun W => rfl) ?_
                    conv => arg 8; simp only [Act.put, List.setIfInBounds_toArray, List.set_cons_zero, List.set_cons_succ]
                    refine rg_done (by kernel_rfl) ?_
                    have h6 := (H2.out.keepN kB).keepN k6
                    have hbl := HN.out
                    have hwo := without_c h6.book hkb (by omega)
                    have hl5 : (bk.eraseIdx kk).length = N - 1 := by rw [List.length_eraseIdx_of_lt (by omega), hbl]
                    have H6 := Lib.hid h6
                    have HL5 := Lib.hid hl5
                    clear h6 hbl hl5 ov k6 row5 m5 kA kB d5
                    go_wp2_with fail
                    refine hwo.mono ?_
                    rintro e w7 ⟨v7, rfl, b7, k7⟩
                    have h7 := H6.out.bookOp b7 (fun x hx => hx) (k7.mono (fun _ _ x => x.elim))
                    obtain ⟨A7, c7, hv7, -⟩ := b7.shape
                    rw [HL5.out] at hv7
                    subst hv7
                    have HF := Lib.hid h7
                    have HOK := Lib.hid (show ∀ x ∈ bk.eraseIdx kk, OkS x from fun x hx => HM.out.2.1 x ((List.eraseIdx_sublist bk kk).subset hx))
                    clear h7 b7 hwo
                    go_wp2_with fail
                    go_meet
                    case rel => exact ⟨_, _, _, _, _, _, rfl, HL5.out, HF.out, HOK.out⟩

                  · obtain ⟨y, z, hy⟩ : ∃ y z, unsealS X = (y, z) := ⟨_, _, rfl⟩
                    have hz0 : z ≠ 0 := by have := hte hsm0; rw [hy] at this; exact this
                    rw [hy] at HC1 ⊢
                    obtain ⟨y2, z2, hy2⟩ : ∃ y z, unsealS s.b = (y, z) := ⟨_, _, rfl⟩
                    rw [hy2] at HC2 ⊢
                    dsimp only at HC1 HC2 ⊢
                    have hzn : ¬ z = 0 := hz0
                    have hzi : ((z : Int) == 0) = false := by simp; omega
                    have hsi : ((sm : Int) == 0) = false := by simp; omega
                    clear hwh hte hy hy2 hz0
                    go_wp2_with fail
                    refine rg_begin 31 (fun _ => False) (by kernel_rfl) (fun w5 d5 => ?_)
                    have kA := HK.out.2.thenN d5
                    have kB := HK.out.1.thenN kA
                    have hgb5 : gb < w5.heap.size := by have := d5.size; omega
                    have row5 := HR.out.1 w5 kB
                    have m5 : w5.cell? ⟨gb, kk * 3 + 2, none⟩ = some (.int .u32 (sm : Int)) := row5 2 _ rfl
                    refine rg_take 0 (d := (some 268)) (v := u) (by decide) rfl rfl (by kernel_rfl) (by kernel_rfl) (by kernel_rfl) (fun _ _ _ h => h) rfl (fun W => rfl) ?_
                    conv => arg 8; simp only [Act.put, List.setIfInBounds_toArray, List.set_cons_zero, List.set_cons_succ]
                    refine rg_conv 1 (d := (some 269)) (HU.out.keepN kB) (fun _ _ x => x) Tryd.underlying26 Tryd.underlying5 Tryd.underlying9 (by decide) (by kernel_rfl) (by kernel_rfl) rfl rfl (by kernel_rfl) (by kernel_rfl) (by kernel_rfl) (fun _ _ _ h => h) rfl rfl ?_
                    conv => arg 8; simp only [Act.put, List.setIfInBounds_toArray, List.set_cons_zero, List.set_cons_succ]
                    refine rg_take 2 (d := (some 270)) (v := .slice (some ⟨gb, 0, none⟩) N bc') (by decide) rfl rfl (by kernel_rfl) (by kernel_rfl) (by kernel_rfl) (fun _ _ _ h => h) rfl (fun W => rfl) ?_
                    conv => arg 8; simp only [Act.put, List.setIfInBounds_toArray, List.set_cons_zero, List.set_cons_succ]
                    refine rg_take 3 (d := (some 271)) (v := .int .i64 kk) (by decide) rfl rfl (by kernel_rfl) (by kernel_rfl) (by kernel_rfl) (fun _ _ _ h => h) rfl (fun W => rfl) ?_
                    conv => arg 8; simp only [Act.put, List.setIfInBounds_toArray, List.set_cons_zero, List.set_cons_succ]
                    refine rg_take 4 (d := (some 272)) (v := .pointer (some ⟨gb, kk * 3, none⟩)) (by decide) rfl rfl (by kernel_rfl) (by kernel_rfl) (by kernel_rfl) (fun _ _ _ h => h) rfl (fun W => by go_simp) ?_
                    conv => arg 8; simp only [Act.put, List.setIfInBounds_toArray, List.set_cons_zero, List.set_cons_succ]
                    refine rg_read 5 (d := (some 273)) (v := .agg #[.slice As L cs, .int .i64 sat, .int .u32 (sm : Int)]) (by decide) (by kernel_rfl) (by kernel_rfl) rfl rfl (by kernel_rfl) (by kernel_rfl) (by kernel_rfl) (fun _ _ _ h => h) rfl (fun W hW => by exact run_load_op (row5.keep hW (fun x => x)) rfl Tryd.underlying56 rfl (show (Tryd.prog.info? ST).map (·.size) = some 3 by kernel_rfl)) ?_
                    conv => arg 8; simp only [Act.put, List.setIfInBounds_toArray, List.set_cons_zero, List.set_cons_succ]
                    refine rg_call 6 (d := (some 274)) (by kernel_rfl) (HS.out.2.2.1 w5 (HR.out.2 w5 kB)) rfl rfl (by kernel_rfl) rfl rfl ?_
                    rintro e w6 ⟨v, rfl, ov, k6⟩
                    refine ⟨_, rfl, k6, ?_⟩
                    conv => arg 8; simp only [Act.put, List.setIfInBounds_toArray, List.set_cons_zero, List.set_cons_succ]
                    refine rg_conv1 7 (d := (some 275)) (ov.readsB) Tryd.underlying26 Tryd.underlying5 Tryd.underlying9 rfl rfl (by kernel_rfl) rfl rfl ?_
                    conv => arg 8; simp only [Act.put, List.setIfInBounds_toArray, List.set_cons_zero, List.set_cons_succ]
                    refine rg_take 8 (d := (some 276)) (v := .bool false) (by decide) rfl rfl (by kernel_rfl) (by kernel_rfl) (by kernel_rfl) (fun _ _ _ h => h) rfl (fun W => by go_simp) ?_
                    conv => arg 8; simp only [Act.put, List.setIfInBounds_toArray, List.set_cons_zero, List.set_cons_succ]
                    refine rg_take 9 (d := (some 277)) (v := .bool false) (by decide) rfl rfl (by kernel_rfl) (by kernel_rfl) (by kernel_rfl) (fun _ _ _ h => h) rfl (fun W => rfl) ?_
                    conv => arg 8; simp only [Act.put, List.setIfInBounds_toArray, List.set_cons_zero, List.set_cons_succ]
                    refine rg_take 10 (d := (some 278)) (v := .int .i64 z) (by decide) rfl rfl (by kernel_rfl) (by kernel_rfl) (by kernel_rfl) (fun _ _ _ h => h) rfl (fun W => rfl) ?_
                    conv => arg 8; simp only [Act.put, List.setIfInBounds_toArray, List.set_cons_zero, List.set_cons_succ]
                    refine rg_take 11 (d := (some 279)) (v := .bool false) (by decide) rfl rfl (by kernel_rfl) (by kernel_rfl) (by kernel_rfl) (fun _ _ _ h => h) rfl (fun W => by go_simp) ?_
                    conv => arg 8; simp only [Act.put, List.setIfInBounds_toArray, List.set_cons_zero, List.set_cons_succ]
                    refine rg_take 12 (d := (some 280)) (v := .slice (some ⟨gb, 0, none⟩) N bc') (by decide) rfl rfl (by kernel_rfl) (by kernel_rfl) (by kernel_rfl) (fun _ _ _ h => h) rfl (fun W => rfl) ?_
                    conv => arg 8; simp only [Act.put, List.setIfInBounds_toArray, List.set_cons_zero, List.set_cons_succ]
                    refine rg_take 13 (d := (some 281)) (v := .int .i64 kk) (by decide) rfl rfl (by kernel_rfl) (by kernel_rfl) (by kernel_rfl) (fun _ _ _ h => h) rfl (fun W => rfl) ?_
                    conv => arg 8; simp only [Act.put, List.setIfInBounds_toArray, List.set_cons_zero, List.set_cons_succ]
                    refine rg_take 14 (d := (some 282)) (v := .pointer (some ⟨gb, kk * 3, none⟩)) (by decide) rfl rfl (by kernel_rfl) (by kernel_rfl) (by kernel_rfl) (fun _ _ _ h => h) rfl (fun W => by go_simp) ?_
                    conv => arg 8; simp only [Act.put, List.setIfInBounds_toArray, List.set_cons_zero, List.set_cons_succ]
                    refine rg_take 15 (d := (some 283)) (v := .pointer (some ⟨gb, kk * 3 + 2, none⟩)) (by decide) rfl rfl (by kernel_rfl) (by kernel_rfl) (by kernel_rfl) (fun _ _ _ h => h) rfl (fun W => by go_simp) ?_
                    conv => arg 8; simp only [Act.put, List.setIfInBounds_toArray, List.set_cons_zero, List.set_cons_succ]
                    refine rg_read 16 (d := (some 284)) (v := .int .u32 (sm : Int)) (by decide) (by kernel_rfl) (by kernel_rfl) rfl rfl (by kernel_rfl) (by kernel_rfl) (by kernel_rfl) (fun _ _ _ h => h) rfl (fun W hW => by have hc := (hW.cell (p := ⟨gb, kk * 3 + 2, none⟩) (Nat.lt_of_lt_of_le hgb5 k6.size) (fun x => x)).trans ((k6.cell hgb5 (fun x => x)).trans m5); go_simp) ?_
                    conv => arg 8; simp only [Act.put, List.setIfInBounds_toArray, List.set_cons_zero, List.set_cons_succ]
                    refine rg_take 17 (d := (some 285)) (v := .bool false) (by decide) rfl rfl (by kernel_rfl) (by kernel_rfl) (by kernel_rfl) (fun _ _ _ h => h) rfl (fun W => by go_simp) ?_
                    conv => arg 8; simp only [Act.put, List.setIfInBounds_toArray, List.set_cons_zero, List.set_cons_succ]
                    refine rg_take 18 (d := (some 286)) (v := .bool false) (by decide) rfl rfl (by kernel_rfl) (by kernel_rfl) (by kernel_rfl) (fun _ _ _ h => h) rfl (fun W => by go_simp) ?_
                    conv => arg 8; simp only [Act.put, List.setIfInBounds_toArray, List.set_cons_zero, List.set_cons_succ]
                    refine rg_take 19 (d := (some 287)) (v := .bool false) (by decide) rfl rfl (by kernel_rfl) (by kernel_rfl) (by kernel_rfl) (fun _ _ _ h => h) rfl (fun W => rfl) ?_
                    conv => arg 8; simp only [Act.put, List.setIfInBounds_toArray, List.set_cons_zero, List.set_cons_succ]
                    refine rg_take 20 (d := (some 288)) (v := .bool false) (by decide) rfl rfl (by kernel_rfl) (by kernel_rfl) (by kernel_rfl) (fun _ _ _ h => h) rfl (fun W => rfl) ?_
                    conv => arg 8; simp only [Act.put, List.setIfInBounds_toArray, List.set_cons_zero, List.set_cons_succ]
                    refine rg_take 21 (d := (some 289)) (v := .int .i64 z) (by decide) rfl rfl (by kernel_rfl) (by kernel_rfl) (by kernel_rfl) (fun _ _ _ h => h) rfl (fun W => rfl) ?_
                    conv => arg 8; simp only [Act.put, List.setIfInBounds_toArray, List.set_cons_zero, List.set_cons_succ]
                    refine rg_take 22 (d := (some 290)) (v := .bool false) (by decide) rfl rfl (by kernel_rfl) (by kernel_rfl) (by kernel_rfl) (fun _ _ _ h => h) rfl (fun W => by go_simp) ?_
                    conv => arg 8; simp only [Act.put, List.setIfInBounds_toArray, List.set_cons_zero, List.set_cons_succ]
                    refine rg_take 23 (d := (some 291)) (v := .bool false) (by decide) rfl rfl (by kernel_rfl) (by kernel_rfl) (by kernel_rfl) (fun _ _ _ h => h) rfl (fun W => rfl) ?_
                    conv => arg 8; simp only [Act.put, List.setIfInBounds_toArray, List.set_cons_zero, List.set_cons_succ]
                    refine rg_skip 24 (d := (some 292)) (by decide) rfl rfl (by kernel_rfl) (by kernel_rfl) (by kernel_rfl) (fun _ _ _ h => h) rfl ?_
                    conv => arg 8; simp only [Act.put, List.setIfInBounds_toArray, List.set_cons_zero, List.set_cons_succ]
                    refine rg_skip 25 (d := (some 293)) (by decide) rfl rfl (by kernel_rfl) (by kernel_rfl) (by kernel_rfl) (fun _ _ _ h => h) rfl ?_
                    conv => arg 8; simp only [Act.put, List.setIfInBounds_toArray, List.set_cons_zero, List.set_cons_succ]
                    refine rg_skip 26 (d := (some 294)) (by decide) rfl rfl (by kernel_rfl) (by kernel_rfl) (by kernel_rfl) (fun _ _ _ h => h) rfl ?_
                    conv => arg 8; simp only [Act.put, List.setIfInBounds_toArray, List.set_cons_zero, List.set_cons_succ]
                    refine rg_skip 27 (d := (some 295)) (by decide) rfl rfl (by kernel_rfl) (by kernel_rfl) (by kernel_rfl) (fun _ _ _ h => h) rfl ?_
                    conv => arg 8; simp only [Act.put, List.setIfInBounds_toArray, List.set_cons_zero, List.set_cons_succ]
                    refine rg_skip 28 (d := (some 296)) (by decide) rfl rfl (by kernel_rfl) (by kernel_rfl) (by kernel_rfl) (fun _ _ _ h => h) rfl ?_
                    conv => arg 8; simp only [Act.put, List.setIfInBounds_toArray, List.set_cons_zero, List.set_cons_succ]
                    refine rg_take 29 (d := (some 297)) (v := .bool false) (by decide) rfl rfl (by kernel_rfl) (by kernel_rfl) (by kernel_rfl) (fun _ _ _ h => h) rfl (fun W => rfl) ?_
                    conv => arg 8; simp only [Act.put, List.setIfInBounds_toArray, List.set_cons_zero, List.set_cons_succ]
                    refine rg_take 30 (d := (some 298)) (v := .bool false) (by decide) rfl rfl (by kernel_rfl) (by kernel_rfl) (by kernel_rfl) (fun _ _ _ h => h) rfl (fun W => rfl) ?_
                    conv => arg 8; simp only [Act.put, List.setIfInBounds_toArray, List.set_cons_zero, List.set_cons_succ]
                    refine rg_done (by kernel_rfl) ?_
                    have h6 := (H2.out.keepN kB).keepN k6
                    have hbl := HN.out
                    have hwo := without_c h6.book hkb (by omega)
                    have hl5 : (bk.eraseIdx kk).length = N - 1 := by rw [List.length_eraseIdx_of_lt (by omega), hbl]
                    have H6 := Lib.hid h6
                    have HL5 := Lib.hid hl5
                    clear h6 hbl hl5 ov k6 row5 m5 kA kB d5
                    go_wp2_with fail
                    refine hwo.mono ?_
                    rintro e w7 ⟨v7, rfl, b7, k7⟩
                    have h7 := H6.out.bookOp b7 (fun x hx => hx) (k7.mono (fun _ _ x => x.elim))
                    obtain ⟨A7, c7, hv7, -⟩ := b7.shape
                    rw [HL5.out] at hv7
                    subst hv7
                    have HF := Lib.hid h7
                    have HOK := Lib.hid (show ∀ x ∈ bk.eraseIdx kk, OkS x from fun x hx => HM.out.2.1 x ((List.eraseIdx_sublist bk kk).subset hx))
                    clear h7 b7 hwo
                    go_wp2_with fail
                    go_meet
                    case rel => exact ⟨_, _, _, _, _, _, rfl, HL5.out, HF.out, HOK.out⟩
          · as_aux_lemma =>
              have hkf1 : (k == 1) = false := by simpa using hk1
              have hkf5 : (k == 5) = false := by simpa using hk5
              have hkf4 : (k == 4) = false := by simpa using hk4
              have hkf6 : (k == 6) = false := by simpa using hk6
              have hkf3 : (k == 3) = false := by simpa using hk3
              clear hk1 hk5 hk4 hk6 hk3
              have HF := Lib.hid HM.out.1
              go_wp2_with fail
              go_meet
              case rel => exact ⟨_, _, bk, _, _, _, rfl, HN.out, HF.out, HM.out.2.1⟩
        case rest =>
          as_aux_lemma =>
            obtain ⟨F3, B3, bk3, N3, A3, c3, rfl, hN3, hM3, hok3⟩ := hcut
            have hln := wlen_x hM3.way.p
            have hle3 := hM3.way.p.le
            rw [stB_len, hN3] at hln hle3
            have HF := Lib.hid (And.intro hM3 hok3)
            have hNn3 := hle3.1
            clear hM3 hok3 hN3 hle3
            go_wp2_with fail
            refine hln.mono ?_
            rintro e wf ⟨rfl, rfl⟩
            go_wp2_with fail
            refine hln.mono ?_
            rintro e wf ⟨rfl, rfl⟩
            clear hln
            go_wp2
            go_roundw
            case rel => exact ⟨q + 1, _, _, _, by omega, by go_num, HF.out.1, HF.out.2⟩
            case measure => exact meas_up hlt
    · as_aux_lemma =>
        obtain ⟨bA', bc', rfl, hbc⟩ := hM.book.shape
        obtain ⟨N, hN⟩ : ∃ N, bk.length = N := ⟨_, rfl⟩
        have hqs : q = sL := by omega
        have hle := hM.way.p.le
        rw [stB_len, hN] at hle
        have hNb : N ≤ 1024 := by omega
        rw [hN] at hbc ⊢
        have HM := Lib.hid (And.intro hM (And.intro hok hN))
        clear hM hok hN hle
        subst hqs
        go_wp2_with fail
        go_loopw [23] (fun i wx => ∃ p : Nat, p ≤ N ∧ i = .int .i64 p ∧ KpN wr wx) (fun i _ => N - (intOf i).toNat)
        case atStart => exact ⟨0, Nat.zero_le _, rfl, Kp.refl _ _⟩
        case round =>
          obtain ⟨p, hp, rfl, kx⟩ := hrel
          by_cases hlp : p < N
          · as_aux_lemma =>
              have hpb : p < bk.length := by rw [HM.out.2.2]; exact hlp
              have hMx := HM.out.1.keepN kx
              rw [show (Value.slice bA' bk.length bc') = .slice bA' N bc' by rw [HM.out.2.2]] at hMx
              have hlook := look_x hMx.way.p (j := p) (by rw [stB_len]; exact hpb)
              rw [stB_get bk p hpb] at hlook
              dsimp only at hlook
              obtain ⟨gb, cb, hvb, hgb, hcb⟩ := hMx.book.form (by omega)
              injection hvb with e1 e2 e3
              subst e1 e3
              clear e2
              have hrw : ∀ W, KpN wr W → RowAt W ⟨gb, p * 3, none⟩ (bkC bk[p]) := fun W k j v hj => by
                have hbk := hMx.book.keepN k
                match j, hj with
                | 0, hj => simp [bkC] at hj; subst hj; exact hbk.c0 p hpb
                | 1, hj => simp [bkC] at hj; subst hj; exact hbk.c1 p hpb
                | 2, hj => simp [bkC] at hj; subst hj; exact hbk.c2 p hpb
              have hob := hMx.book.each _ (List.getElem_mem hpb)
              have hos := HM.out.2.1 _ (List.getElem_mem hpb)
              obtain ⟨s, hs⟩ : ∃ s, bk[p] = s := ⟨_, rfl⟩
              rw [hs] at hrw hob hos hlook
              obtain ⟨As, cs, hvs, -⟩ := hob.readsB.form
              have hlb := hos.len
              have hnow : ∀ W, KpN wr W → Calls Tryd.prog 23 #[.agg #[.slice As s.b.length cs, .int .i64 s.at_, .int .u32 (s.m : Int)]] W (GotB 5 W (nowS s)) := fun W k => now_c (by have := (hob.keepN k).readsB; rwa [hvs] at this) hos.hat hos.hm (by omega)
              have hld3 : ∀ W, KpN wr W → RowAt W ⟨gb, p * 3, none⟩ [.slice As s.b.length cs, .int .i64 s.at_, .int .u32 (s.m : Int)] := fun W k => by
                have := hrw W k
                rwa [show bkC s = [.slice As s.b.length cs, .int .i64 s.at_, .int .u32 (s.m : Int)] by simp [bkC, hvs]] at this
              obtain ⟨L, hL⟩ : ∃ L, s.b.length = L := ⟨_, rfl⟩
              obtain ⟨sat, hsat⟩ : ∃ z, s.at_ = z := ⟨_, rfl⟩
              obtain ⟨sm, hsm⟩ : ∃ z, s.m = z := ⟨_, rfl⟩
              obtain ⟨X, hX⟩ : ∃ X, nowS s = X := ⟨_, rfl⟩
              rw [hL, hsat, hsm] at hld3 hnow
              rw [hX] at hnow hlook
              have HH := Lib.hid (And.intro hnow (And.intro hld3 (And.intro kx (HM.out.1.kp))))
              clear hMx hrw hob hos hs hvs hlb hnow hld3 hL hsat hsm hX kx
              go_wp2_with fail
              refine hlook.mono ?_
              rintro e w2 ⟨u, rfl, ou, k2⟩
              clear hlook
              obtain ⟨uA, uc, rfl, -⟩ := ou.readsB.form
              have HU := Lib.hid (And.intro ou.readsB k2)
              clear ou k2
              go_wp2_with fail
              refine rg_begin 13 (fun _ => False) (by kernel_rfl) (fun w5 d5 => ?_)
              refine rg_take 0 (d := (some 325)) (v := .int .i64 0) (by decide) rfl rfl (by kernel_rfl) (by kernel_rfl) (by kernel_rfl) (fun _ _ _ h => h) rfl (fun W => rfl) ?_
              conv => arg 8; simp only [Act.put, List.setIfInBounds_toArray, List.set_cons_zero, List.set_cons_succ]
              refine rg_take 1 (d := (some 326)) (v := .bool false) (by decide) rfl rfl (by kernel_rfl) (by kernel_rfl) (by kernel_rfl) (fun _ _ _ h => h) rfl (fun W => by go_simp) ?_
              conv => arg 8; simp only [Act.put, List.setIfInBounds_toArray, List.set_cons_zero, List.set_cons_succ]
              refine rg_take 2 (d := (some 327)) (v := .bool false) (by decide) rfl rfl (by kernel_rfl) (by kernel_rfl) (by kernel_rfl) (fun _ _ _ h => h) rfl (fun W => rfl) ?_
              conv => arg 8; simp only [Act.put, List.setIfInBounds_toArray, List.set_cons_zero, List.set_cons_succ]
              refine rg_take 3 (d := (some 328)) (v := .slice uA X.length uc) (by decide) rfl rfl (by kernel_rfl) (by kernel_rfl) (by kernel_rfl) (fun _ _ _ h => h) rfl (fun W => rfl) ?_
              conv => arg 8; simp only [Act.put, List.setIfInBounds_toArray, List.set_cons_zero, List.set_cons_succ]
              refine rg_conv 4 (d := (some 329)) (HU.out.1.keepN d5) (fun _ _ x => x) Tryd.underlying26 Tryd.underlying5 Tryd.underlying9 (by decide) (by kernel_rfl) (by kernel_rfl) rfl rfl (by kernel_rfl) (by kernel_rfl) (by kernel_rfl) (fun _ _ _ h => h) rfl rfl ?_
              conv => arg 8; simp only [Act.put, List.setIfInBounds_toArray, List.set_cons_zero, List.set_cons_succ]
              refine rg_take 5 (d := (some 330)) (v := .slice (some ⟨gb, 0, none⟩) N bc') (by decide) rfl rfl (by kernel_rfl) (by kernel_rfl) (by kernel_rfl) (fun _ _ _ h => h) rfl (fun W => rfl) ?_
              conv => arg 8; simp only [Act.put, List.setIfInBounds_toArray, List.set_cons_zero, List.set_cons_succ]
              refine rg_take 6 (d := (some 331)) (v := .int .i64 p) (by decide) rfl rfl (by kernel_rfl) (by kernel_rfl) (by kernel_rfl) (fun _ _ _ h => h) rfl (fun W => rfl) ?_
              conv => arg 8; simp only [Act.put, List.setIfInBounds_toArray, List.set_cons_zero, List.set_cons_succ]
              refine rg_take 7 (d := (some 332)) (v := .pointer (some ⟨gb, p * 3, none⟩)) (by decide) rfl rfl (by kernel_rfl) (by kernel_rfl) (by kernel_rfl) (fun _ _ _ h => h) rfl (fun W => by go_simp) ?_
              conv => arg 8; simp only [Act.put, List.setIfInBounds_toArray, List.set_cons_zero, List.set_cons_succ]
              refine rg_read 8 (d := (some 333)) (v := .agg #[.slice As L cs, .int .i64 sat, .int .u32 (sm : Int)]) (by decide) (by kernel_rfl) (by kernel_rfl) rfl rfl (by kernel_rfl) (by kernel_rfl) (by kernel_rfl) (fun _ _ _ h => h) rfl (fun W hW => by exact run_load_op (HH.out.2.1 W (HU.out.2.thenN (d5.thenN hW))) rfl Tryd.underlying56 rfl (show (Tryd.prog.info? ST).map (·.size) = some 3 by kernel_rfl)) ?_
              conv => arg 8; simp only [Act.put, List.setIfInBounds_toArray, List.set_cons_zero, List.set_cons_succ]
              refine rg_call 9 (d := (some 334)) (by kernel_rfl) (HH.out.1 w5 (HU.out.2.thenN d5)) rfl rfl (by kernel_rfl) rfl rfl ?_
              rintro e w6 ⟨v, rfl, ov, k6⟩
              refine ⟨_, rfl, k6, ?_⟩
              conv => arg 8; simp only [Act.put, List.setIfInBounds_toArray, List.set_cons_zero, List.set_cons_succ]
              refine rg_conv1 10 (d := (some 335)) (ov.readsB) Tryd.underlying26 Tryd.underlying5 Tryd.underlying9 rfl rfl (by kernel_rfl) rfl rfl ?_
              conv => arg 8; simp only [Act.put, List.setIfInBounds_toArray, List.set_cons_zero, List.set_cons_succ]
              refine rg_take 11 (d := (some 336)) (v := .bool false) (by decide) rfl rfl (by kernel_rfl) (by kernel_rfl) (by kernel_rfl) (fun _ _ _ h => h) rfl (fun W => by go_simp) ?_
              conv => arg 8; simp only [Act.put, List.setIfInBounds_toArray, List.set_cons_zero, List.set_cons_succ]
              refine rg_take 12 (d := (some 337)) (v := .bool false) (by decide) rfl rfl (by kernel_rfl) (by kernel_rfl) (by kernel_rfl) (fun _ _ _ h => h) rfl (fun W => rfl) ?_
              conv => arg 8; simp only [Act.put, List.setIfInBounds_toArray, List.set_cons_zero, List.set_cons_succ]
              refine rg_done (by kernel_rfl) ?_
              have HF := Lib.hid (HH.out.2.2.1.thenN (HU.out.2.thenN (d5.thenN k6)))
              clear ov k6 d5
              go_wp2_with fail
              go_roundw
              case rel => exact ⟨p + 1, by omega, by go_num, HF.out⟩
              case measure => exact meas_up hlp
          · as_aux_lemma =>
              have hpn : p = N := by omega
              subst hpn
              have HF := Lib.hid (HM.out.1.kp.thenN kx)
              clear kx
              go_wp2_with fail
              go_ret
              exact ⟨rfl, HF.out⟩
end Go.Proofs.YteokkpmndfekoaaDoor
