/- The statements against the document's disk: what the calls do. -/
import Derived.Test.YthkbgbbejgpeaaaYN
namespace Go.Proofs.Ythkbgbbejgpeaaa
open Go Go.RowKit Go.ChangeShapes Go.WideShapes Go.ChangeAt
set_option maxRecDepth 100000

theorem open_startA {H : Type} {enc : TypeId × Value → H} {W : World} {base : Nat} {sp : Nat → Bool} {held : Bool} {d : DataW H} {p : List MemPlace} {cs : Array Value} (h0 : DataW.Trod enc Try.prog W base sp held 40 (.agg cs) d p) : ∃ (iv : Value) (img : List UInt8) (s : Int), cs = #[iv, .int .i64 s] ∧ RdB W iv img ∧ I64 s ∧ img.length ≤ Rows.uptoBulk d := by
  obtain ⟨iv, img, s, hc, h1, h2, h3⟩ := open_start h0
  refine ⟨iv, img, s, ?_, h1, h2, h3⟩
  have hc : cs.toList = [iv, .int .i64 s] := by simpa [Value.cells] using hc
  exact Array.toList_inj.1 hc
theorem dreads_walk {w : World} {iv va : Value} {img : List UInt8} {s : Int} {l : List DOp} (hi : RdB w iv img) (hil : img.length ≤ 9000000) (hs : I64 s) (ha : RdOps w va l) (hla : opsSize l ≤ 9000000) :
    Calls Try.prog 16 #[.agg #[iv, .int .i64 s], va] w (TrueP w) := by
  obtain ⟨iA, ic, rfl, -⟩ := hi.form
  obtain ⟨aA, ac, rfl, -⟩ := SlAt.form ha
  have kb := (Kp.refl (fun _ => False) w).alloc (.cells #[.slice iA img.length ic, .int .i64 s] 40)
  have hp := played_c (which := 1) (hi.keepN kb) (by omega) hs (ha.keepN kb) (by omega)
  have HP := Lib.hid hp
  clear hp hi ha
  generalize img.length = L at *
  go_enter Try.func16, Try.ntmps16
  go_wp2_with fail
  refine HP.out.mono ?_
  rintro e w2 ⟨rfl, k2⟩
  go_wp2
  go_ret
  exact ⟨rfl, kb.thenN k2⟩
theorem dwrites_walk {w : World} {iv va : Value} {img : List UInt8} {s : Int} {l : List DOp} (hi : RdB w iv img) (hil : img.length ≤ 9000000) (hs : I64 s) (ha : RdOps w va l) (hla : opsSize l ≤ 9000000) :
    Calls Try.prog 17 #[.agg #[iv, .int .i64 s], va] w (TrueP w) := by
  obtain ⟨iA, ic, rfl, -⟩ := hi.form
  obtain ⟨aA, ac, rfl, -⟩ := SlAt.form ha
  have kb := (Kp.refl (fun _ => False) w).alloc (.cells #[.slice iA img.length ic, .int .i64 s] 40)
  have hp := played_c (which := 14) (hi.keepN kb) (by omega) hs (ha.keepN kb) (by omega)
  have HP := Lib.hid hp
  clear hp hi ha
  generalize img.length = L at *
  go_enter Try.func17, Try.ntmps17
  go_wp2_with fail
  refine HP.out.mono ?_
  rintro e w2 ⟨rfl, k2⟩
  go_wp2
  go_ret
  exact ⟨rfl, kb.thenN k2⟩
theorem dcrashes_walk {w : World} {iv va : Value} {img : List UInt8} {s : Int} {l : List DOp} (hi : RdB w iv img) (hil : img.length ≤ 9000000) (hs : I64 s) (ha : RdOps w va l) (hla : opsSize l ≤ 9000000) :
    Calls Try.prog 18 #[.agg #[iv, .int .i64 s], va] w (TrueP w) := by
  obtain ⟨iA, ic, rfl, -⟩ := hi.form
  obtain ⟨aA, ac, rfl, -⟩ := SlAt.form ha
  have kb := (Kp.refl (fun _ => False) w).alloc (.cells #[.slice iA img.length ic, .int .i64 s] 40)
  have hp := played_c (which := 112) (hi.keepN kb) (by omega) hs (ha.keepN kb) (by omega)
  have HP := Lib.hid hp
  clear hp hi ha
  generalize img.length = L at *
  go_enter Try.func18, Try.ntmps18
  go_wp2_with fail
  refine HP.out.mono ?_
  rintro e w2 ⟨rfl, k2⟩
  go_wp2
  go_ret
  exact ⟨rfl, kb.thenN k2⟩
theorem dall_walk {w : World} {iv va : Value} {img : List UInt8} {s : Int} {l : List DOp} (hi : RdB w iv img) (hil : img.length ≤ 9000000) (hs : I64 s) (ha : RdOps w va l) (hla : opsSize l ≤ 9000000) :
    Calls Try.prog 19 #[.agg #[iv, .int .i64 s], va] w (TrueP w) := by
  obtain ⟨iA, ic, rfl, -⟩ := hi.form
  obtain ⟨aA, ac, rfl, -⟩ := SlAt.form ha
  have kb := (Kp.refl (fun _ => False) w).alloc (.cells #[.slice iA img.length ic, .int .i64 s] 40)
  have hp := played_c (which := 255) (hi.keepN kb) (by omega) hs (ha.keepN kb) (by omega)
  have HP := Lib.hid hp
  clear hp hi ha
  generalize img.length = L at *
  go_enter Try.func19, Try.ntmps19
  go_wp2_with fail
  refine HP.out.mono ?_
  rintro e w2 ⟨rfl, k2⟩
  go_wp2
  go_ret
  exact ⟨rfl, kb.thenN k2⟩
end Go.Proofs.Ythkbgbbejgpeaaa
