/- From a reading of the arguments, of bulk at most 1048576, to what the walks ask. -/
import Derived.Test.YteokkpmndfekoaaRows
import Derived.Test.YteokkpmndfekoaaV
import Derived.ProofKit
import Derived.OpenShut
import Derived.ShutString
import Derived.ChangeOld
import Derived.JoinedCond
namespace Go.Proofs.Yteokkpmndfekoaa
open Go Go.RowKit Go.ChangeShapes Go.WideShapes Go.ChangeAt
set_option maxRecDepth 100000
namespace Bulk
theorem one_le {H : Type} (d : DataW H) : 1 ≤ Rows.uptoBulk d := by
  cases d with
  | lit l => cases l <;> simp [Rows.uptoBulk]
  | nil => simp [Rows.uptoBulk]
  | ptr d => simp [Rows.uptoBulk]
  | slice elems spare => simp [Rows.uptoBulk]
  | agg parts => simp [Rows.uptoBulk]
  | iface t d => simp [Rows.uptoBulk]
  | map entries => simp [Rows.uptoBulk]
  | held h => simp [Rows.uptoBulk]
theorem part_le {H : Type} {d : DataW H} {l : List (DataW H)} (h : d ∈ l) : Rows.uptoBulk d ≤ Rows.uptoBulkAll l := by
  induction l with
  | nil => cases h
  | cons x r ih =>
    simp only [Rows.uptoBulkAll]
    cases List.mem_cons.1 h with
    | inl e => subst e; omega
    | inr e => have := ih e; omega
theorem length_le {H : Type} (l : List (DataW H)) : l.length ≤ Rows.uptoBulkAll l := by
  induction l with
  | nil => simp [Rows.uptoBulkAll]
  | cons x r ih => have := one_le x; simp only [Rows.uptoBulkAll, List.length_cons]; omega
theorem slice_le {H : Type} (elems spare : List (DataW H)) : elems.length + spare.length + 1 ≤ Rows.uptoBulk (.slice elems spare) := by
  have h1 := length_le elems
  have h2 := length_le spare
  simp only [Rows.uptoBulk]
  omega
theorem bound {H : Type} {l : List (DataW H)} (hk : Rows.uptoSmall H l = true) : Rows.uptoBulkAll l ≤ 1048576 := of_decide_eq_true hk
end Bulk
theorem laidOut : laidOutB Try.prog = true := by kernel_rfl
theorem ownKnob_none : ownKnob Try.prog.godebug = none := by kernel_rfl
theorem u8_wf {x : Int} (h : (Lit.int .u8 x).wf = true) : 0 ≤ x ∧ x < 256 := by
  have h1 : IntKind.u8.min = 0 := rfl
  have h2 : IntKind.u8.max = 255 := rfl
  simp only [Lit.wf, Bool.and_eq_true, decide_eq_true_eq] at h
  omega
theorem u64_wf {x : Int} (h : (Lit.int .u64 x).wf = true) : 0 ≤ x ∧ x < 18446744073709551616 := by
  have h1 : IntKind.u64.min = 0 := rfl
  have h2 : IntKind.u64.max = 18446744073709551615 := rfl
  simp only [Lit.wf, Bool.and_eq_true, decide_eq_true_eq] at h
  omega
theorem i64_wf {x : Int} (h : (Lit.int .i64 x).wf = true) : -9223372036854775808 ≤ x ∧ x < 9223372036854775808 := by
  have h1 : IntKind.i64.min = -9223372036854775808 := rfl
  have h2 : IntKind.i64.max = 9223372036854775807 := rfl
  simp only [Lit.wf, Bool.and_eq_true, decide_eq_true_eq] at h
  omega
theorem u32_wf {x : Int} (h : (Lit.int .u32 x).wf = true) : 0 ≤ x ∧ x < 4294967296 := by
  have h1 : IntKind.u32.min = 0 := rfl
  have h2 : IntKind.u32.max = 4294967295 := rfl
  simp only [Lit.wf, Bool.and_eq_true, decide_eq_true_eq] at h
  omega
section
variable {H : Type} {enc : TypeId × Value → H} {W : World}
/-- an argument that is a list of bytes -/
theorem open_bytes {t : TypeId} (ht : Try.prog.underlying t = some (.slice 5)) {base : Nat} {sp : Nat → Bool} {held : Bool} {a : Option Addr} {len cap : Nat} {d : DataW H} {p : List MemPlace} (h0 : DataW.Trod enc Try.prog W base sp held t (.slice a len cap) d p) :
    ∃ xs : List UInt8, RdB W (.slice a len cap) xs ∧ xs.length + 1 ≤ Rows.uptoBulk d + (if a = none then 1 else 0) ∧ xs.length = len := by
  obtain ⟨fuel, hf⟩ := h0
  rcases open_ints ht Try.underlying5 (by kernel_rfl) hf with ⟨hcs, _⟩ | ⟨x, l, c, zs, hcs, _, hl, hm, hz, hx, hcell, hwz⟩
  · simp [Value.cells] at hcs
    obtain ⟨rfl, rfl, rfl⟩ := hcs
    exact ⟨[], RdB.nil W, by have := Bulk.one_le d; simp, rfl⟩
  · simp [Value.cells] at hcs
    obtain ⟨rfl, rfl, rfl⟩ := hcs
    have hzl : len ≤ zs.length := by
      rw [hz]
      split <;> omega
    have hlen : ((zs.take len).map fun n => UInt8.ofNat n.toNat).length = len := by simp; omega
    refine ⟨(zs.take len).map fun n => UInt8.ofNat n.toNat, ⟨by rw [bvs_length]; omega, some x, cap, by rw [hlen], by omega, fun j u hu => ⟨x, rfl, ?_⟩⟩, ?_, hlen⟩
    · rw [bvs_get, List.getElem?_map] at hu
      obtain ⟨b, hb, rfl⟩ := Option.map_eq_some_iff.1 hu
      obtain ⟨n, hn, rfl⟩ := Option.map_eq_some_iff.1 hb
      rw [List.getElem?_take] at hn
      split at hn
      · rename_i hj
        have hjz : j < zs.length := by omega
        rw [hcell j hjz]
        have e1 : zs.getD j 0 = n := by simp [List.getD, hn]
        have hmem : n ∈ zs := List.mem_of_getElem? hn
        obtain ⟨h0, h1⟩ := u8_wf (hwz n hmem)
        rw [e1, byte_of n h0 h1]
      · cases hn
    · simp only [Prod.mk.injEq] at hx
      obtain ⟨rfl, _⟩ := hx
      have := Bulk.slice_le (H := H) (lits .u8 (zs.take len)) (lits .u8 (zs.drop len))
      rw [hlen]
      simp [lits] at this ⊢
      omega
theorem open_bytes_small {t : TypeId} (ht : Try.prog.underlying t = some (.slice 5)) {base : Nat} {sp : Nat → Bool} {held : Bool} {a : Option Addr} {len cap : Nat} {d : DataW H} {p : List MemPlace} (h0 : DataW.Trod enc Try.prog W base sp held t (.slice a len cap) d p) (hb : Rows.uptoBulk d ≤ 1048576) :
    ∃ xs : List UInt8, RdB W (.slice a len cap) xs ∧ xs.length ≤ 1048576 ∧ xs.length = len := by
  obtain ⟨xs, h1, h2, h3⟩ := open_bytes ht h0
  exact ⟨xs, h1, by split at h2 <;> omega, h3⟩
/-- all arguments read as they did -/
theorem trodAll_below {ts : List TypeId} : ∀ {vs : List Value} {ds : List (DataW H)} {p : List MemPlace} {W' : World} (_ : DataW.TrodAll enc Try.prog W 0 (fun _ => true) true ts vs ds p) (_ : ∀ t ∈ ts, Try.prog.readableRec t = true ∧ t < Try.prog.types.size) (_ : Below W.heap.size W W'),
    DataW.TrodAll enc Try.prog W' 0 (fun b => decide (b < W.heap.size)) true ts vs ds p := by
  induction ts with
  | nil =>
    intro vs ds p W' h _ _
    obtain ⟨rfl, rfl, rfl⟩ := trodAll_nil h
    exact trodAll_mk0
  | cons t ts ih =>
    intro vs ds p W' h hr hb
    obtain ⟨v, vs', d, ds', p1, p2, rfl, rfl, rfl, h0, r0⟩ := trodAll_cons h
    obtain ⟨h1, h2⟩ := hr t (by simp)
    have lt0 : ∀ x ∈ p1, x.block < W.heap.size := by obtain ⟨m, hm⟩ := h0; exact DataW.trod_lt m _ _ _ hm
    exact trodAll_cons_mk (Below.trod laidOut h1 h2 h0 hb lt0) (ih r0 (fun t ht => hr t (by simp [ht])) hb)
end
end Go.Proofs.Yteokkpmndfekoaa
