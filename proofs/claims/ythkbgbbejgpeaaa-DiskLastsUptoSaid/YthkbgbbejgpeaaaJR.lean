/- A keeper's book in memory: begin, crashed. -/
import Derived.Test.YthkbgbbejgpeaaaJQ
namespace Go.Proofs.Ythkbgbbejgpeaaa
open Go Go.RowKit
set_option maxRecDepth 100000

theorem listInfo : (Try.prog.info? 29).map (fun i => (i.zero, i.size, i.bytes)) = some (some (.slice none 0 0), 1, 24) := by kernel_rfl
theorem OwnL.one {w : World} {F2 : Nat → Prop} {T : Nat} {u : Value} {ys : List Int} (h : OwI w F2 u ys) : OwnL (w.alloc (.cells #[u] T)) T (fun k => F2 k ∨ k = w.heap.size) (.slice (some ⟨w.heap.size, 0, none⟩) 1 1) [(u, ys)] := by
  have kl := (Kp.refl (fun _ => False) w).alloc (.cells #[u] T)
  refine ⟨?_, fun i hi => ?_, fun i j hi hj hij => ?_, fun i hi k hk hk2 => ?_⟩
  · have := OwC.lit w T 1 1 #[u] (by simp [maxLen]) rfl
    exact this.wide (fun k _ hk => .inr (by have := hk.1; have := hk.2; omega))
  · have hi0 : i = 0 := by simpa using hi
    subst hi0
    exact (h.keepN kl).wide (fun k _ hk => .inl hk)
  · simp at hi hj
    omega
  · have hi0 : i = 0 := by simpa using hi
    subst hi0
    have e : w.heap.size = k := Option.some.inj hk
    have := h.lt k hk2
    omega
/-- another list in the place of one -/
theorem BookM.put {w w' : World} {B G : Nat → Prop} {kb g next mb L mc : Nat} {ls : List (Value × List Int)} (h : BookM w B kb g (.slice (some ⟨mb, 0, none⟩) L mc) ls next) (i : Nat) (hi : i < ls.length) {u : Value} {ys : List Int} (k : Kp (fun x => ls[i].1.ownBlock = some x) w w') (o : OwI w' G u ys)
    (hu : u.ownBlock = ls[i].1.ownBlock ∨ ∀ x, u.ownBlock = some x → w.heap.size ≤ x) (hG : ∀ x, B x → G x) : BookM (w'.setCell ⟨mb, i, none⟩ u) G kb g (.slice (some ⟨mb, 0, none⟩) L mc) (ls.set i (u, ys)) next := by
  have hsi := h.seps i hi
  have hmk : mb ≠ kb := h.sep mb rfl
  have ks := kp1_set (w := w') (F := fun x => x = mb) rfl i u
  have hlt := h.lt
  have hz := k.size
  have hlt' : kb < w'.heap.size := by omega
  have cell : ∀ j, (w'.setCell ⟨mb, i, none⟩ u).cell? ⟨kb, j, none⟩ = w.cell? ⟨kb, j, none⟩ := fun j => by
    rw [ks.cell hlt' (fun e => hmk e.symm), k.cell hlt (fun e => hsi kb e rfl)]
  refine ⟨hG _ h.fit, by have := ks.size; omega, by rw [cell]; exact h.c0, by rw [cell]; exact h.c1, by rw [cell]; exact h.c2, fun j => ?_, h.own.put i hi k o hu hG, h.sep, fun j hj b hb => ?_⟩
  · rw [ks.frozen hlt' (fun e => hmk e.symm), k.frozen hlt (fun e => hsi kb e rfl)]
    exact h.fz j
  · rw [List.length_set] at hj
    rw [List.getElem_set] at hb
    split at hb
    · rcases hu with hu | hu
      · exact hsi b (by rw [← hu]; exact hb)
      · have := hu b hb; omega
    · exact h.seps j hj b hb
theorem BookM.setNext {w : World} {B : Nat → Prop} {kb g next : Nat} {mv : Value} {ls : List (Value × List Int)} (h : BookM w B kb g mv ls next) (n' : Nat) : BookM (w.setCell ⟨kb, 2, none⟩ (.int .i64 (n' : Int))) B kb g mv ls n' := by
  have ks := kp1_set (w := w) (F := fun x => x = kb) rfl 2 (.int .i64 (n' : Int))
  refine ⟨h.fit, by simpa using h.lt, ?_, ?_, World.cell?_setCell_same _ _ _ h.c2, fun j => by simpa using h.fz j, h.own.keepB ks (fun b hb => h.sep b hb) (fun j hj b hb => h.seps j hj b hb), h.sep, h.seps⟩
  · rw [World.cell?_setCell_other _ _ _ _ (fun e => by cases e)]; exact h.c0
  · rw [World.cell?_setCell_other _ _ _ _ (fun e => by cases e)]; exact h.c1
theorem BookM.setMay {w w' : World} {B G : Nat → Prop} {kb g next : Nat} {mv mv' : Value} {ls ls' : List (Value × List Int)} (h : BookM w B kb g mv ls next) (k : Kp (fun x => mv.ownBlock = some x) w w') (o : OwnL w' 29 G mv' ls') (hG : ∀ x, B x → G x) (hs : ∀ b, mv'.ownBlock = some b → b ≠ kb) (hss : ∀ i (h : i < ls'.length) b, ls'[i].1.ownBlock = some b → b ≠ kb) :
    BookM (w'.setCell ⟨kb, 1, none⟩ mv') G kb g mv' ls' next := by
  have ks := kp1_set (w := w') (F := fun x => x = kb) rfl 1 mv'
  have hlt := h.lt
  have hz := k.size
  have cell : ∀ j, w'.cell? ⟨kb, j, none⟩ = w.cell? ⟨kb, j, none⟩ := fun j => by rw [k.cell hlt (fun e => h.sep kb e rfl)]
  have hc1 : w'.cell? ⟨kb, 1, none⟩ = some mv := by rw [cell]; exact h.c1
  refine ⟨hG _ h.fit, by have := ks.size; omega, ?_, World.cell?_setCell_same _ _ _ hc1, ?_, fun j => ?_, o.keepB ks (fun b hb => hs b hb) (fun j hj b hb => hss j hj b hb), hs, hss⟩
  · rw [World.cell?_setCell_other _ _ _ _ (fun e => by cases e), cell]; exact h.c0
  · rw [World.cell?_setCell_other _ _ _ _ (fun e => by cases e), cell]; exact h.c2
  · have : (w'.setCell ⟨kb, 1, none⟩ mv').frozen? ⟨kb, j, none⟩ = w'.frozen? ⟨kb, j, none⟩ := by simp
    rw [this, k.frozen hlt (fun e => h.sep kb e rfl)]
    exact h.fz j
/-- the loop of 'begin' -/
def BeginRel (w1 : World) (g kb : Nat) (j : Value) (wr : World) : Prop := ∃ (q : Nat) (mv : Value) (ls : List (Value × List Int)), j = .int .i64 q ∧ BookM wr (fun x => w1.heap.size ≤ x ∧ x < wr.heap.size) kb g mv ls 1 ∧ ls.map Prod.snd = List.replicate q [0] ∧ KpN w1 wr
def BeginP (w : World) (n : Nat) (e : Ending) (w' : World) : Prop := ∃ kb g mv ls F B, e = .returned (.tuple #[ptrD kb, .bool true]) ∧ KS w w' F B kb g 0 (newD n) mv ls 1
set_option maxHeartbeats 3200000 in
theorem begin_c {w : World} {sectors : Int} {n : Nat} (hs : I64 sectors) (hn : spanZ sectors 1 65536 = (n : Int)) (hn1 : 1 ≤ n) (hn2 : n ≤ 65536) : Calls Try.prog 36 #[.int .i64 sectors] w (BeginP w n) := by
  have HN := Lib.hid hn
  clear hn
  go_enter Try.func36, Try.ntmps36
  go_wp2_with fail
  refine (span_c hs (by omega) (by omega) (by omega)).mono ?_
  rintro e w0 ⟨rfl, rfl⟩
  rw [HN.out]
  go_wp2_with fail
  refine (new_x (n := n) hn1 hn2).mono ?_
  rintro e w1 ⟨g, rfl, hd1, k1⟩
  have HD1 := Lib.hid hd1.tight
  have kb1 := (Kp.refl (fun _ => False) w1).alloc (.cells #[ptrD g, .slice none 0 0, .int .i64 1] 61)
  have hcb : ∀ j u, (#[ptrD g, .slice none 0 0, .int .i64 1] : Array Value)[j]? = some u → (w1.alloc (.cells #[ptrD g, .slice none 0 0, .int .i64 1] 61)).cell? ⟨w1.heap.size, j, none⟩ = some u := fun j u hu => by
    rw [cell_of_row _ _ _ _ _ _ (heap_alloc_new _ _)]
    exact hu
  have hb0 : BookM (w1.alloc (.cells #[ptrD g, .slice none 0 0, .int .i64 1] 61)) (fun x => w1.heap.size ≤ x ∧ x < (w1.alloc (.cells #[ptrD g, .slice none 0 0, .int .i64 1] 61)).heap.size) w1.heap.size g (.slice none 0 0) [] 1 :=
    ⟨⟨Nat.le_refl _, by simp⟩, by simp, hcb 0 _ rfl, hcb 1 _ rfl, hcb 2 _ rfl, fun j => frozen_of_row _ _ j _ _ (heap_alloc_new _ _), OwnL.nil _ _ _, fun b hb => (by cases hb), fun i hi => absurd hi (by simp)⟩
  have HB0 := Lib.hid hb0
  clear hcb hb0 hd1
  go_wp2_with fail
  go_loopw [8] (fun j wr => (∃ q : Nat, j = .int .i64 q ∧ q ≤ n) ∧ BeginRel w1 g w1.heap.size j wr) (fun j _ => n - (intOf j).toNat)
  case atStart => exact ⟨⟨0, rfl, Nat.zero_le _⟩, 0, _, [], rfl, HB0.out, rfl, kb1⟩
  case round =>
    clear HB0
    obtain ⟨⟨q0, rfl, hq⟩, q, mv, ls, hqe, hb, hls, hk⟩ := hrel
    obtain rfl : q0 = q := by injection hqe with _ h; omega
    by_cases hlt : q0 < n
    · have c1 := hb.c1
      have f1 := hb.fz 1
      have kl1 := (Kp.refl (fun _ => False) wr).alloc (.cells #[.int .i64 0] 3)
      have o1 : OwI (wr.alloc (.cells #[.int .i64 0] 3)) (fun x => x = wr.heap.size) (.slice (some ⟨wr.heap.size, 0, none⟩) 1 1) [0] := by
        have := OwC.lit wr 3 1 1 #[.int .i64 0] (by simp [maxLen]) rfl
        exact this.wide (fun b _ hb => by have := hb.1; have := hb.2; omega)
      have hz1 : (wr.alloc (.cells #[.int .i64 0] 3)).heap.size = wr.heap.size + 1 := by simp
      obtain ⟨wa, hwa⟩ : ∃ wa, wr.alloc (.cells #[.int .i64 0] 3) = wa := ⟨_, rfl⟩
      rw [hwa] at kl1 o1 hz1
      have o2 := OwnL.one (T := 29) o1
      have kl2 := (Kp.refl (fun _ => False) wa).alloc (.cells #[.slice (some ⟨wr.heap.size, 0, none⟩) 1 1] 29)
      have hz2 : (wa.alloc (.cells #[.slice (some ⟨wr.heap.size, 0, none⟩) 1 1] 29)).heap.size = wa.heap.size + 1 := by simp
      obtain ⟨wb, hwb⟩ : ∃ wb, wa.alloc (.cells #[.slice (some ⟨wr.heap.size, 0, none⟩) 1 1] 29) = wb := ⟨_, rfl⟩
      rw [hwb] at kl2 o2 hz2
      have hbb := (hb.keepN kl1).keepN kl2
      have hlen : ls.length = q0 := by have := congrArg List.length hls; simpa using this
      obtain ⟨mv', w', r, o3, k3, hat⟩ := run_appL (P := Try.prog) (t := 59) (ty := 59) wb Try.underlying59 listInfo rfl hbb.own o2 (fun x h1 h2 => by
        have := h1.2
        rcases h2 with h2 | h2
        · omega
        · omega) (by simp; omega) (by simp; omega)
      obtain ⟨A3, c3, rfl, -⟩ := RdC.form o3.row.reads
      have hLN : (ls ++ [((.slice (some ⟨wr.heap.size, 0, none⟩) 1 1 : Value), ([0] : List Int))]).length = q0 + 1 := by simp [hlen]
      rw [hLN] at r o3 hat
      clear hLN
      have hz3 := k3.size
      have hklt := hb.lt
      have hb' := hbb.setMay (G := fun x => w1.heap.size ≤ x ∧ x < w'.heap.size) k3 (o3.wide (fun x hx hG => ⟨by
          rcases hG with h | h | h
          · exact h.1
          · have := hk.size
            rcases h with h | h <;> omega
          · have := h.1; have := hk.size; omega, hx⟩)) (fun x hx => ⟨hx.1, by have := hx.2; omega⟩) ?_ ?_
      · have hls' : (ls ++ [((.slice (some ⟨wr.heap.size, 0, none⟩) 1 1 : Value), ([0] : List Int))]).map Prod.snd = List.replicate (q0 + 1) [0] := by
          rw [List.map_append, hls, List.replicate_succ']
          rfl
        obtain ⟨MV, hMV⟩ : ∃ MV, Value.slice A3 (q0 + 1) c3 = MV := ⟨_, rfl⟩
        rw [hMV] at hb'
        have hk' : KpN w1 (w'.setCell ⟨w1.heap.size, 1, none⟩ MV) := (((hk.thenN kl1).thenN kl2).fresh k3 (fun x hx => (hbb.own.row.fit x hx).1)).setCell (p := ⟨w1.heap.size, 1, none⟩) (.inr (Nat.le_refl _)) _
        have hsz : (w'.setCell ⟨w1.heap.size, 1, none⟩ MV).heap.size = w'.heap.size := by simp
        rw [← hsz] at hb'
        rw [← hMV] at hb' hk'
        have HR := Lib.hid (And.intro hb' (And.intro hls' hk'))
        have hca : w'.cell? ⟨w1.heap.size, 1, none⟩ = some mv := by
          rw [k3.cell (by show w1.heap.size < _; omega) (fun e => hbb.sep _ e rfl)]
          exact hbb.c1
        have hfa : w'.frozen? ⟨w1.heap.size, 1, none⟩ = false := by
          rw [k3.frozen (by show w1.heap.size < _; omega) (fun e => hbb.sep _ e rfl)]
          exact hbb.fz 1
        rw [hz1] at r
        rw [← hwb, ← hwa] at r
        clear hb' hls' hk' hsz o1 o2 o3 hbb hb hls hz1 hz2 hlen hwa hwb hat kl1 kl2 hz3 hMV
        go_wp2_with (refine app_op r rfl rfl ?_)
        go_roundw
        case rel => exact ⟨⟨q0 + 1, by go_num, by omega⟩, q0 + 1, _, _, by go_num, HR.out.1, HR.out.2.1, HR.out.2.2⟩
        case measure => exact meas_up hlt
      · intro b hb2
        rcases hat with h | h
        · exact hbb.sep b (by rw [← h]; exact hb2)
        · rw [h] at hb2
          have e : wb.heap.size = b := Option.some.inj hb2
          omega
      · intro i hi b hb2
        by_cases hil : i < ls.length
        · rw [List.getElem_append_left hil] at hb2
          exact hbb.seps i hil b hb2
        · rw [List.getElem_append_right (by omega)] at hb2
          have hi0 : i - ls.length = 0 := by simp at hi; omega
          simp only [hi0, List.getElem_cons_zero] at hb2
          have e : wr.heap.size = b := Option.some.inj hb2
          omega
    · obtain rfl : n = q0 := by omega
      have hd := HD1.out.keepN hk
      have hsec := sectors_x hd
      rw [show (newD n).n = n from rfl] at hsec
      have hks : KS w wr (fun b => Iv w.heap.size w1.heap.size b ∧ b < w1.heap.size) (fun x => w1.heap.size ≤ x ∧ x < wr.heap.size) w1.heap.size g 0 (newD n) mv ls 1 :=
        ⟨hd, hb, by rw [hls]; exact new_book n hn1, fun x h1 h2 => by have := h1.2; have := h2.1; omega, fun x hx => ⟨hx.1.1, by have := hx.2; have := hk.size; omega⟩, fun x hx => ⟨by have := hx.1; have := k1.size; omega, hx.2⟩, k1.thenN hk⟩
      have HKS := Lib.hid hks
      clear hks hb hls hd
      go_wp2_with fail
      refine hsec.mono ?_
      rintro e w9 ⟨rfl, rfl⟩
      go_wp2_with fail
      go_ret2
      exact ⟨_, _, _, _, _, _, rfl, HKS.out⟩
end Go.Proofs.Ythkbgbbejgpeaaa
