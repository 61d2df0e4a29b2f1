/- What a bus answers, in plain numbers and lists: the words that both buses are held against. No condition. -/
import Derived.Test.YtkocfcgdjjdnhaaBusState
namespace Go.Proofs.Ytkocfcgdjjdnhaa.BW
open Go.RowKit
set_option linter.unusedVariables false
set_option linter.unusedSimpArgs false
/-- Are all of the bytes RAM (of n bytes)? -/
def inRam (n addr size : Int) : Bool := decide (1 ≤ size) && (decide (2147483648 ≤ addr) && decide (addr + size ≤ 2147483648 + n))
def szOk (size : Int) : Bool := size == 1 || (size == 2 || (size == 4 || size == 8))
/-- What an access reaches: 0 nothing, 1 RAM, 2 the finisher, 3 msip, 4 to 6 mtimecmp (all, low, high), 7 to 9 mtime, 10 the console. -/
def reach (n addr size : Int) : Int :=
  if szOk size = true ∧ addr % size = 0 ∧ inRam n addr size = true then 1
  else if size = 1 ∧ 268435456 ≤ addr ∧ addr < 268435464 then 10
  else if size = 4 ∧ addr = 1048576 then 2
  else if size = 4 ∧ addr = 33554432 then 3
  else if size = 4 ∧ addr = 33570816 then 5
  else if size = 4 ∧ addr = 33570820 then 6
  else if size = 8 ∧ addr = 33570816 then 4
  else if size = 4 ∧ addr = 33603576 then 8
  else if size = 4 ∧ addr = 33603580 then 9
  else if size = 8 ∧ addr = 33603576 then 7
  else 0
/-- A number of bytes, the lowest first. -/
def leVal : List Int → Int
  | [] => 0
  | b :: r => b + 256 * leVal r
def leOf (v : Int) : Nat → List Int
  | 0 => []
  | n + 1 => v % 256 :: leOf (v / 256) n
/-- l with the bytes p from at on. -/
def lay (l : List Int) (at_ : Nat) (p : List Int) : List Int := l.take at_ ++ p ++ l.drop (at_ + p.length)
def b2i (b : Bool) : Int := if b = true then 1 else 0
/-- The console's line. -/
def St.line (s : St) : Bool := decide (s.ier % 2 = 1) && !s.inp.isEmpty
def St.status (s : St) : Int := b2i (!s.inp.isEmpty) + 2 * b2i s.over + 96 * b2i (decide (s.out.length < 4096))
/-- A load of one of the console's registers. -/
def St.tells (s : St) (reg : Int) : Int × St :=
  if reg = 0 then (s.inp.headD 0, { s with inp := s.inp.tail })
  else if reg = 1 then (s.ier, s)
  else if reg = 2 then (if s.line = true then 4 else 1, s)
  else if reg = 3 then (s.lcr, s)
  else if reg = 4 then (s.mcr, s)
  else if reg = 5 then (s.status, { s with over := false })
  else if reg = 7 then (s.scr, s)
  else (0, s)
/-- A store to one. -/
def St.takes (s : St) (reg v : Int) : St :=
  if reg = 0 then (if s.out.length < 4096 then { s with out := s.out ++ [v % 256] } else s)
  else if reg = 1 then { s with ier := v % 16 }
  else if reg = 2 then (if v / 2 % 2 = 1 then { s with inp := [] } else s)
  else if reg = 3 then { s with lcr := v % 256 }
  else if reg = 4 then { s with mcr := v % 32 }
  else if reg = 7 then { s with scr := v % 256 }
  else s
def St.power (s : St) (v : Int) : St :=
  if s.off = 0 then (if v % 65536 = 21845 then { s with off := 1 } else if v % 65536 = 13107 then { s with off := 2, code := v / 65536 % 65536 } else s) else s
def St.load (s : St) (addr size : Int) : (Int × Bool) × St :=
  let r := reach s.ram.length addr size
  if r = 1 then ((leVal ((s.ram.drop (addr - 2147483648).toNat).take size.toNat), true), s)
  else if r = 2 then ((0, true), s)
  else if r = 3 then ((s.msip, true), s)
  else if r = 4 then ((s.cmp, true), s)
  else if r = 5 then ((s.cmp % 4294967296, true), s)
  else if r = 6 then ((s.cmp / 4294967296, true), s)
  else if r = 7 then ((s.now, true), s)
  else if r = 8 then ((s.now % 4294967296, true), s)
  else if r = 9 then ((s.now / 4294967296, true), s)
  else if r = 10 then (((s.tells (addr - 268435456)).1, true), (s.tells (addr - 268435456)).2)
  else ((0, false), s)
def lowOf (was v : Int) : Int := was / 4294967296 * 4294967296 + v % 4294967296
def highOf (was v : Int) : Int := v % 4294967296 * 4294967296 + was % 4294967296
def St.store (s : St) (addr size v : Int) : Bool × St :=
  let r := reach s.ram.length addr size
  if r = 1 then (true, { s with ram := lay s.ram (addr - 2147483648).toNat (leOf v size.toNat) })
  else if r = 2 then (true, s.power v)
  else if r = 3 then (true, { s with msip := v % 2 })
  else if r = 4 then (true, { s with cmp := v })
  else if r = 5 then (true, { s with cmp := lowOf s.cmp v })
  else if r = 6 then (true, { s with cmp := highOf s.cmp v })
  else if r = 7 then (true, { s with now := v })
  else if r = 8 then (true, { s with now := lowOf s.now v })
  else if r = 9 then (true, { s with now := highOf s.now v })
  else if r = 10 then (true, s.takes (addr - 268435456) v)
  else (false, s)
/-- Bytes come in. -/
def St.join (s : St) (l : List Int) : St := { s with inp := s.inp ++ l.take (64 - s.inp.length), over := s.over || decide (64 < s.inp.length + l.length) }
def St.begin (s : St) (tick ext soft : Bool) (l : List Int) : St :=
  if s.off = 0 then { s.join l with ext := ext, soft := soft, now := if tick = true then (s.now + 1) % 18446744073709551616 else s.now } else s
def St.mip (s : St) : Int := 8 * b2i (decide (s.msip = 1) || s.soft) + 128 * b2i (decide (s.cmp ≤ s.now)) + 2048 * b2i (s.ext || s.line)
def St.can (s : St) (addr size kind : Int) : Bool := decide (reach s.ram.length addr size ≠ 0) && (decide (1 ≤ kind) && decide (kind ≤ 3))
def St.peek (s : St) (addr n : Int) : List Int × Int :=
  if n < 0 then ([], 1) else if n = 0 then ([], 0) else if inRam s.ram.length addr n = true then ((s.ram.drop (addr - 2147483648).toNat).take n.toNat, 0) else ([], 30)
def St.poke (s : St) (addr : Int) (p : List Int) : Int × St :=
  if p = [] then (0, s) else if inRam s.ram.length addr p.length = true then (0, { s with ram := lay s.ram (addr - 2147483648).toNat p }) else (30, s)
/-- May it be a bus's state? -/
def St.canBe (s : St) : Bool :=
  decide (8 ≤ s.ram.length) && decide (s.ram.length ≤ 65536) && decide (s.ram.length % 8 = 0) && decide (s.msip ≤ 1) && decide (s.ier ≤ 15) && decide (s.mcr ≤ 31) && decide (s.inp.length ≤ 64) && decide (s.out.length ≤ 4096)
    && ((decide (s.off = 0 ∨ s.off = 1) && decide (s.code = 0)) || (decide (s.off = 2) && (decide (0 ≤ s.code) && decide (s.code ≤ 65535))))
end Go.Proofs.Ytkocfcgdjjdnhaa.BW
