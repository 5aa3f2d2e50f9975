/- append onto a row of the call's own: where it goes on, and where a new row is made; the front of a row that was gone on with. -/
import Derived.Test.YteokkpmndfekoaaDoorOW
import Derived.ArgAppend
namespace Go.Proofs.YteokkpmndfekoaaDoor
open Go Go.RowKit
set_option maxRecDepth 100000

theorem run_appX {P : Program} (w : World) {t ty e : TypeId} {z : Value} {bytes : Nat} (ht : P.underlying t = some (.slice e)) (hinfo : (P.info? e).map (fun i => (i.zero, i.size, i.bytes)) = some (some z, 1, bytes)) (hzs : z.cells.size = 1)
    {F : Nat → Prop} {v : Value} {n c : Nat} {cs : List Value} {ad : Addr} {u : Value} (ho : OwC w e 1 F v n cs) (hu : w.cell? ad = some u) (h1 : u.oneCell' = true) (hb : (n + 1) * bytes ≤ 140737488355328) (hm : n + 1 ≤ 140737488355328) :
    ∃ v' w', (Builtin.append_ #[t, t] ty #[v, .slice (some ad) 1 c]).run P w = .ok v' w' ∧ OwC w' e 1 (fun k => F k ∨ Iv w.heap.size w'.heap.size k) v' (n + 1) (cs ++ [u]) ∧
      ((v'.ownBlock = v.ownBlock ∧ Kp (fun k => v.ownBlock = some k) w w') ∨ (v'.ownBlock = some w.heap.size ∧ KpN w w')) := by
  obtain ⟨i0, hi, hz, hs, hby⟩ := info_parts hinfo
  have hnews : ∀ j x, [u][j]? = some x → w.cell? (ad.add j) = some x := fun j x hj => by
    match j, hj with
    | 0, hj =>
      simp at hj
      subst hj
      simpa [Addr.add] using hu
  have hone : ∀ x ∈ [u], x.oneCell' = true := by
    intro x hx
    simp at hx
    subst hx
    exact h1
  obtain ⟨v', w', hrun, h2, h3, -, h5⟩ := run_append_own_at (P := P) w 0 t ty e i0 z 1 bytes ht hi hz hs hby hzs (by omega) v n cs ho.own ad 1 c [u] rfl hnews hone (by simp only [maxLen]; omega) hb (Nat.zero_le _)
  refine ⟨v', w', hrun, ⟨h2, fun k hk => ?_⟩, ?_⟩
  · rcases h5 with h | h
    · exact .inl (ho.fit k (by rw [← h]; exact hk))
    · have hlt := (h2.lt k hk).2
      rw [h] at hk
      injection hk with hk
      exact .inr ⟨by omega, hlt⟩
  · have kp0 : Kp (fun k => v.ownBlock = some k) w w' := ⟨h3.os, h3.tape, h3.output, h3.size, fun k hk hn => h3.block k hk (fun e => hn e.symm)⟩
    rcases ho.own.2 with ⟨rfl, rfl⟩ | ⟨g, cap, cur, rfl, hbg, hg, hnc, hcm, hcs, htake⟩
    · rcases h5 with h | h
      · exact .inl ⟨h, kp0⟩
      · exact .inr ⟨h, kp0.mono (fun k _ h => by simp [Value.ownBlock] at h)⟩
    · by_cases hroom : n + 1 ≤ cap
      · have hr := run_append_room (P := P) (ty := ty) w t e i0 ht hi g n cap cur hg ad 1 c [u] (by rw [hs]; rfl) hnews hone hroom (by rw [hs, hcs]; simp; omega)
        rw [hr] at hrun
        injection hrun with e1 e2
        left
        rw [← e1]
        refine ⟨rfl, kp0⟩
      · have holds : ∀ j x, cs[j]? = some x → w.cell? ((⟨g, 0, none⟩ : Addr).add j) = some x := ho.own.cells (g := g) rfl
        obtain ⟨v2, w2, hrun2, ho2, hg2⟩ := run_append_arg_grows (P := P) w t ty e i0 z 1 bytes ht hi hz hs hby hzs (by omega) ⟨g, 0, none⟩ n cap cs ho.own.1 holds ad 1 c [u] rfl hnews (by omega) (by simp only [maxLen]; omega) hb
        rw [hrun2] at hrun
        injection hrun with e1 e2
        subst e1 e2
        right
        have hgl : g < w.heap.size := (Array.getElem?_eq_some_iff.1 hg).1
        refine ⟨?_, ⟨hg2.os, hg2.tape, hg2.output, hg2.size, fun k hk hn => hg2.block k hk (fun e => by cases e)⟩⟩
        rcases h5 with h | h
        · exfalso
          have h6 := (ho2.lt g (by rw [h]; rfl)).1
          omega
        · exact h
/-- the front of a row that was gone on with -/
theorem OwC.front {w w0 : World} {e n m : Nat} {F G : Nat → Prop} {v v' : Value} {cs ds : List Value} (h0 : OwC w0 e 1 F v n cs) (h : OwC w e 1 G v' m (cs ++ ds)) (hb : v'.ownBlock = v.ownBlock) : RdC w 1 v n cs := by
  have hl := h0.own.1
  rcases h0.own.2 with ⟨rfl, rfl⟩ | ⟨g, cap, cur0, rfl, _, _, hcap, _⟩
  · have : cs = [] := List.eq_nil_of_length_eq_zero (by simpa using hl)
    subst this
    exact ⟨rfl, none, 0, rfl, Nat.le_refl _, fun j u hj => by simp at hj⟩
  · rcases h.own.2 with ⟨rfl, _⟩ | ⟨g', cap', cur, rfl, _, hg, _⟩
    · simp [Value.ownBlock] at hb
    · simp only [Value.ownBlock, Option.some.injEq] at hb
      subst hb
      refine ⟨hl, some ⟨g', 0, none⟩, cap, rfl, hcap, fun j u hj => ⟨_, rfl, ?_⟩⟩
      have hj' : (cs ++ ds)[j]? = some u := by
        rw [List.getElem?_append_left (by have := (List.getElem?_eq_some_iff.1 hj).1; omega)]
        exact hj
      exact h.own.cells (g := g') rfl j u hj'
/-- while a row of the call's own is gone on with: 'more' -/
structure Grow (w0 w : World) (e : Nat) (v more : Value) (n m : Nat) (cs ds : List Value) : Prop where
  own : OwC w e 1 (fun k => v.ownBlock = some k ∨ w0.heap.size ≤ k) more m (cs ++ ds)
  rd : RdC w 1 v n cs
  at_ : more.ownBlock = v.ownBlock ∨ ∀ b, more.ownBlock = some b → w0.heap.size ≤ b
  kp : Kp (fun k => v.ownBlock = some k) w0 w
theorem Grow.start {w : World} {e n : Nat} {F : Nat → Prop} {v : Value} {cs : List Value} (h : OwC w e 1 F v n cs) : Grow w w e v v n n cs [] :=
  ⟨by rw [List.append_nil]; exact ⟨h.own, fun k hk => .inl hk⟩, h.reads, .inl rfl, Kp.refl _ _⟩
/-- .. by one -/
theorem Grow.app {P : Program} {w0 w1 w : World} {t ty e : TypeId} {z : Value} {bytes : Nat} (ht : P.underlying t = some (.slice e)) (hinfo : (P.info? e).map (fun i => (i.zero, i.size, i.bytes)) = some (some z, 1, bytes)) (hzs : z.cells.size = 1)
    {F : Nat → Prop} {v more : Value} {n m c : Nat} {cs ds : List Value} {ad : Addr} {u : Value} (h0 : OwC w0 e 1 F v n cs) (hg : Grow w0 w1 e v more n m cs ds) (kl : KpN w1 w) (hu : w.cell? ad = some u) (h1 : u.oneCell' = true) (hb : (m + 1) * bytes ≤ 140737488355328) (hm : m + 1 ≤ 140737488355328) :
    ∃ v' w', (Builtin.append_ #[t, t] ty #[more, .slice (some ad) 1 c]).run P w = .ok v' w' ∧ Grow w0 w' e v v' n (m + 1) cs (ds ++ [u]) := by
  have ho := hg.own.keepN kl
  have z1 := hg.kp.size
  have z2 := kl.size
  obtain ⟨v', w', hrun, h2, h3⟩ := run_appX (P := P) (ty := ty) w ht hinfo hzs ho hu h1 hb hm
  rw [List.append_assoc] at h2
  have own' : OwC w' e 1 (fun k => v.ownBlock = some k ∨ w0.heap.size ≤ k) v' (m + 1) (cs ++ (ds ++ [u])) := h2.wide (fun k _ hk => by
    rcases hk with hk | hk
    · exact hk
    · exact .inr (by have := hk.1; omega))
  have vlt : ∀ b, v.ownBlock = some b → b < w0.heap.size := h0.lt
  refine ⟨v', w', hrun, own', ?_, ?_, ?_⟩
  · rcases h3 with ⟨e3, k3⟩ | ⟨e3, k3⟩
    · rcases hg.at_ with ha | ha
      · exact h0.front own' (by rw [e3, ha])
      · exact (hg.rd.keepN kl).keep k3 (fun b hb hb2 => by have := vlt b hb; have := ha b hb2; omega)
    · exact (hg.rd.keepN kl).keepN k3
  · rcases h3 with ⟨e3, k3⟩ | ⟨e3, k3⟩
    · rcases hg.at_ with ha | ha
      · exact .inl (by rw [e3, ha])
      · exact .inr (fun b hb => ha b (by rw [← e3]; exact hb))
    · refine .inr (fun b hb => ?_)
      rw [e3] at hb
      injection hb with hb
      omega
  · rcases h3 with ⟨e3, k3⟩ | ⟨e3, k3⟩
    · refine (hg.kp.thenN kl).trans k3 (fun _ _ x => x) (fun b hlt hb => ?_)
      rcases hg.at_ with ha | ha
      · rw [← ha]; exact hb
      · have := ha b hb
        omega
    · exact (hg.kp.thenN kl).thenN k3
end Go.Proofs.YteokkpmndfekoaaDoor
