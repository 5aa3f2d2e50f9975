/- Bundles: good, laid, read: plain lists, no program. -/
import Derived.Test.YteokkpmndfekoaaBM
import Derived.Test.YteokkpmndfekoaaP9
namespace Go.Proofs.Yteokkpmndfekoaa

/-- the first fault stays -/
def rF (f e : Int) : Int := if f = 0 then e else f
theorem rF_zero (e : Int) : rF 0 e = e := if_pos rfl
theorem rF_ne {f : Int} (h : f ≠ 0) (e : Int) : rF f e = f := if_neg h
/-- just two numbers, just one -/
def two (xs : List UInt8) : Nat × Nat × Bool :=
  ((rNum xs 0 0 281474976710655).1, (rNum xs (rNum xs 0 0 281474976710655).2.1 (rNum xs 0 0 281474976710655).2.2 281474976710655).1,
    decide (rEnd xs (rNum xs (rNum xs 0 0 281474976710655).2.1 (rNum xs 0 0 281474976710655).2.2 281474976710655).2.1 (rNum xs (rNum xs 0 0 281474976710655).2.1 (rNum xs 0 0 281474976710655).2.2 281474976710655).2.2 = 0))
def one (xs : List UInt8) : Nat × Bool := ((rNum xs 0 0 281474976710655).1, decide (rEnd xs (rNum xs 0 0 281474976710655).2.1 (rNum xs 0 0 281474976710655).2.2 = 0))
theorem rNum_lt (xs : List UInt8) (a : Nat) (f : Int) (most : Nat) (h : most < 18446744073709551616) : (rNum xs a f most).1 < 18446744073709551616 := Nat.lt_of_le_of_lt (rNum_most xs a f most) h
/-- a hop's limit and count -/
def hopB (xs : List UInt8) : Bool := (two xs).2.2 && decide (1 ≤ (two xs).1) && decide ((two xs).1 ≤ 255) && decide ((two xs).2.1 ≤ (two xs).1)
def holds (k : Nat) (xs : List UInt8) : Bool := if k = 6 then (two xs).2.2 else if k = 7 then (one xs).2 else if k = 10 then hopB xs else true
def known (k : Nat) : Bool := decide (k = 6) || decide (k = 7) || decide (k = 10)
def tyBad (t : Nat) (ahead : List Blk) : Bool := decide (t < 2) || decide (255 < t) || (known t && ahead.any fun x => decide (x.ty = t))
def nuBad (n : Nat) (ahead : List Blk) : Bool := decide (n < 2) || decide (255 < n) || ahead.any fun x => decide (x.nu = n)
def headed (t n f : Nat) (ahead : List Blk) : Nat := if tyBad t ahead then 1 else if nuBad n ahead then 2 else if 255 < f then 3 else 0
def fitsB (x : Blk) (ahead : List Blk) : Bool := decide (headed x.ty x.nu x.fl ahead = 0)
def tellsB (x : Blk) : Bool := decide (x.da.length ≤ 64) && holds x.ty x.da
def blkB (x : Blk) (ahead : List Blk) : Bool := fitsB x ahead && tellsB x
/-- the blocks from k on are good -/
def blksB (l : List Blk) (k : Nat) : Bool := (List.range' k (l.length - k)).all fun i => blkB (l.getD i ⟨0, 0, 0, []⟩) (l.take i)
theorem blksB_out (l : List Blk) (k : Nat) (h : l.length ≤ k) : blksB l k = true := by
  unfold blksB
  rw [show l.length - k = 0 by omega]
  rfl
theorem blksB_at (l : List Blk) (k : Nat) (h : k < l.length) : blksB l k = (blkB l[k] (l.take k) && blksB l (k + 1)) := by
  unfold blksB
  rw [show l.length - k = (l.length - (k + 1)) + 1 by omega, List.range'_succ, List.all_cons]
  simp [List.getD, h]
def headB (b : Bdl) : Bool := decide (b.fl ≤ 7) && decide (b.e0 ≤ 281474976710655) && decide (b.e1 ≤ 281474976710655) && decide (b.e2 ≤ 281474976710655) && decide (b.e3 ≤ 281474976710655) && decide (b.e4 ≤ 281474976710655) && decide (b.e5 ≤ 281474976710655) && decide (b.ti ≤ 281474976710655) && decide (b.sq ≤ 281474976710655) && decide (b.li ≤ 281474976710655) && decide (b.bl.length ≤ 8) && decide (b.pl.length ≤ 512)
def good (b : Bdl) : Bool := headB b && blksB b.bl 0
def blkL (x : Blk) : List UInt8 := sd x.ty ++ sd x.nu ++ sd x.fl ++ lb x.da
def headL (b : Bdl) : List UInt8 := 6 :: (sd b.fl ++ sd b.e0 ++ sd b.e1 ++ sd b.e2 ++ sd b.e3 ++ sd b.e4 ++ sd b.e5 ++ sd b.ti ++ sd b.sq ++ sd b.li ++ sd b.bl.length)
def laid (b : Bdl) : List UInt8 := headL b ++ (b.bl.map blkL).flatten ++ lb b.pl
/-- Valid's answer -/
def valE (b : Bdl) : Int := if good b then (if 1024 < (laid b).length then 81 else 0) else 20
def encB (b : Bdl) : List UInt8 := if valE b = 0 then laid b else []
/-! reading -/
/-- a number, which must be such -/
def rWant (xs : List UInt8) (a : Nat) (f : Int) (most : Nat) : Nat × Nat × Int :=
  ((rNum xs a f 281474976710655).1, (rNum xs a f 281474976710655).2.1, if most < (rNum xs a f 281474976710655).1 then rF (rNum xs a f 281474976710655).2.2 20 else (rNum xs a f 281474976710655).2.2)
def rAsk (bad : Bool) (f : Int) : Int := if bad then rF f 20 else f
/-- a block: its type; its number; its flags; its data -/
def decT (xs : List UInt8) (ahead : List Blk) (a : Nat) (f : Int) : Nat × Nat × Int :=
  ((rNum xs a f 281474976710655).1, (rNum xs a f 281474976710655).2.1, rAsk (tyBad (rNum xs a f 281474976710655).1 ahead) (rNum xs a f 281474976710655).2.2)
def decN (xs : List UInt8) (ahead : List Blk) (a : Nat) (f : Int) : Nat × Nat × Int :=
  ((rNum xs a f 281474976710655).1, (rNum xs a f 281474976710655).2.1, rAsk (nuBad (rNum xs a f 281474976710655).1 ahead) (rNum xs a f 281474976710655).2.2)
def decD (xs : List UInt8) (t : Nat) (a : Nat) (f : Int) : List UInt8 × Nat × Int :=
  ((rBytes xs a f 64).1, (rBytes xs a f 64).2.1, rAsk (!holds t (rBytes xs a f 64).1) (rBytes xs a f 64).2.2)
def decBlk (xs : List UInt8) (ahead : List Blk) (a : Nat) (f : Int) : Blk × Nat × Int :=
  let t := decT xs ahead a f
  let n := decN xs ahead t.2.1 t.2.2
  let g := rWant xs n.2.1 n.2.2 255
  let d := decD xs t.1 g.2.1 g.2.2
  (⟨t.1, n.1, g.1, d.1⟩, d.2.1, d.2.2)
def decBlks (xs : List UInt8) : Nat → List Blk → Nat → Int → List Blk × Nat × Int
  | 0, l, a, f => (l, a, f)
  | n + 1, l, a, f => if f ≠ 0 then (l, a, f) else decBlks xs n (l ++ [(decBlk xs l a f).1]) (decBlk xs l a f).2.1 (decBlk xs l a f).2.2
theorem decBlks_stop (xs : List UInt8) (n : Nat) (l : List Blk) (a : Nat) (f : Int) (h : f ≠ 0) : decBlks xs n l a f = (l, a, f) := by
  cases n with
  | zero => rfl
  | succ n => unfold decBlks; rw [if_pos h]
theorem decBlks_next (xs : List UInt8) (n : Nat) (l : List Blk) (a : Nat) : decBlks xs (n + 1) l a 0 = decBlks xs n (l ++ [(decBlk xs l a 0).1]) (decBlk xs l a 0).2.1 (decBlk xs l a 0).2.2 := by
  rw [decBlks, if_neg (by simp)]
/-- the first byte -/
def decV (xs : List UInt8) : Nat × Int := ((rTake xs 0 0 1).2.1, if (rTake xs 0 0 1).1 = [6] then (rTake xs 0 0 1).2.2 else rF (rTake xs 0 0 1).2.2 20)
/-- nine numbers behind the flags, one after the other -/
def decNine (xs : List UInt8) : Nat → Nat → Int → List Nat × Nat × Int
  | 0, a, f => ([], a, f)
  | n + 1, a, f => ((rNum xs a f 281474976710655).1 :: (decNine xs n (rNum xs a f 281474976710655).2.1 (rNum xs a f 281474976710655).2.2).1, (decNine xs n (rNum xs a f 281474976710655).2.1 (rNum xs a f 281474976710655).2.2).2)
theorem decNine_len (xs : List UInt8) : ∀ (n a : Nat) (f : Int), (decNine xs n a f).1.length = n
  | 0, _, _ => rfl
  | n + 1, a, f => by rw [decNine]; simp [decNine_len xs n]
theorem decNine_lt (xs : List UInt8) : ∀ (n a : Nat) (f : Int), ∀ z ∈ (decNine xs n a f).1, z ≤ 281474976710655
  | 0, _, _ => by simp [decNine]
  | n + 1, a, f => by
    intro z hz
    rw [decNine] at hz
    rcases List.mem_cons.1 hz with rfl | hz
    · exact rNum_most _ _ _ _
    · exact decNine_lt xs n _ _ z hz
/-- what was read, good or not: the bundle, the place, the fault -/
def decAll (xs : List UInt8) : Bdl × Nat × Int :=
  let v := decV xs
  let fl := rWant xs v.1 v.2 7
  let m := decNine xs 9 fl.2.1 fl.2.2
  let n := rWant xs m.2.1 m.2.2 8
  let b := decBlks xs n.1 [] n.2.1 n.2.2
  let p := rBytes xs b.2.1 b.2.2 512
  (⟨fl.1, m.1.getD 0 0, m.1.getD 1 0, m.1.getD 2 0, m.1.getD 3 0, m.1.getD 4 0, m.1.getD 5 0, m.1.getD 6 0, m.1.getD 7 0, m.1.getD 8 0, b.1, p.1⟩, p.2.1, rEnd xs p.2.1 p.2.2)
def decE (xs : List UInt8) : Int := if 1024 < xs.length then 81 else (decAll xs).2.2
def decB (xs : List UInt8) : Bdl := if decE xs = 0 then (decAll xs).1 else noBdl
end Go.Proofs.Yteokkpmndfekoaa
