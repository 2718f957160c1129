/- SHA-256, its authentication code, and the encodings of numbers and texts, as plain functions. -/
import Derived.Test.YtackbjbmadkkhaaDoorBase
namespace Go.Proofs.YtackbjbmadkkhaaDoor
set_option linter.unusedSimpArgs false
set_option linter.unusedVariables false
/-- the word at a place -/
def wd (l : List UInt32) (i : Nat) : UInt32 := l.getD i 0
/-- rotation to the right -/
def rr (x : UInt32) (n : Nat) : UInt32 := shr x n ||| shl x (32 - n)
def mix3 (x : UInt32) (i j k : Nat) : UInt32 := rr x i ^^^ rr x j ^^^ rr x k
/-- the constants of the rounds -/
def KK : List UInt32 := [0x428a2f98, 0x71374491, 0xb5c0fbcf, 0xe9b5dba5, 0x3956c25b, 0x59f111f1, 0x923f82a4, 0xab1c5ed5,
  0xd807aa98, 0x12835b01, 0x243185be, 0x550c7dc3, 0x72be5d74, 0x80deb1fe, 0x9bdc06a7, 0xc19bf174,
  0xe49b69c1, 0xefbe4786, 0x0fc19dc6, 0x240ca1cc, 0x2de92c6f, 0x4a7484aa, 0x5cb0a9dc, 0x76f988da,
  0x983e5152, 0xa831c66d, 0xb00327c8, 0xbf597fc7, 0xc6e00bf3, 0xd5a79147, 0x06ca6351, 0x14292967,
  0x27b70a85, 0x2e1b2138, 0x4d2c6dfc, 0x53380d13, 0x650a7354, 0x766a0abb, 0x81c2c92e, 0x92722c85,
  0xa2bfe8a1, 0xa81a664b, 0xc24b8b70, 0xc76c51a3, 0xd192e819, 0xd6990624, 0xf40e3585, 0x106aa070,
  0x19a4c116, 0x1e376c08, 0x2748774c, 0x34b0bcb5, 0x391c0cb3, 0x4ed8aa4a, 0x5b9cca4f, 0x682e6ff3,
  0x748f82ee, 0x78a5636f, 0x84c87814, 0x8cc70208, 0x90befffa, 0xa4506ceb, 0xbef9a3f7, 0xc67178f2]
/-- a word of a block, the most significant byte first -/
def be4 (a b c d : UInt8) : UInt32 := shl (shl (shl a.toUInt32 8 ||| b.toUInt32) 8 ||| c.toUInt32) 8 ||| d.toUInt32
def wordAt (b : List UInt8) (t : Nat) : UInt32 := be4 (byteAt b (4 * t)) (byteAt b (4 * t + 1)) (byteAt b (4 * t + 2)) (byteAt b (4 * t + 3))
def sg0 (p : UInt32) : UInt32 := rr p 7 ^^^ rr p 18 ^^^ shr p 3
def sg1 (q : UInt32) : UInt32 := rr q 17 ^^^ rr q 19 ^^^ shr q 10
/-- the word behind the words of l -/
def nextW (l : List UInt32) : UInt32 := wd l (l.length - 16) + sg0 (wd l (l.length - 15)) + wd l (l.length - 7) + sg1 (wd l (l.length - 2))
/-- the first t words of the schedule of a block -/
def sch (b : List UInt8) : Nat → List UInt32
  | 0 => []
  | t + 1 => sch b t ++ [if t < 16 then wordAt b t else nextW (sch b t)]
theorem sch_len (b : List UInt8) (t : Nat) : (sch b t).length = t := by
  induction t with
  | zero => rfl
  | succ t ih => rw [sch, List.length_append, ih]; rfl
/-- a hash value -/
structure HS where
  a : UInt32
  b : UInt32
  c : UInt32
  d : UInt32
  e : UInt32
  f : UInt32
  g : UInt32
  h : UInt32
deriving DecidableEq
def rndX (k w : UInt32) (s : HS) : UInt32 := s.h + mix3 s.e 6 11 25 + ((s.e &&& s.f) ^^^ (~~~s.e &&& s.g)) + k + w
def rndY (s : HS) : UInt32 := mix3 s.a 2 13 22 + ((s.a &&& s.b) ^^^ (s.a &&& s.c) ^^^ (s.b &&& s.c))
def rnd (k w : UInt32) (s : HS) : HS := ⟨rndX k w s + rndY s, s.a, s.b, s.c, s.d + rndX k w s, s.e, s.f, s.g⟩
/-- after t rounds -/
def rnds (w : List UInt32) (s : HS) : Nat → HS
  | 0 => s
  | t + 1 => rnd (wd KK t) (wd w t) (rnds w s t)
def hadd (s v : HS) : HS := ⟨s.a + v.a, s.b + v.b, s.c + v.c, s.d + v.d, s.e + v.e, s.f + v.f, s.g + v.g, s.h + v.h⟩
/-- a block is taken in -/
def cmpr (s : HS) (b : List UInt8) : HS := hadd s (rnds (sch b 64) s 64)
def iv : HS := ⟨0x6a09e667, 0xbb67ae85, 0x3c6ef372, 0xa54ff53a, 0x510e527f, 0x9b05688c, 0x1f83d9ab, 0x5be0cd19⟩
/-- the hash value behind the first n blocks of a text -/
def blks (m : List UInt8) : Nat → HS
  | 0 => iv
  | n + 1 => cmpr (blks m n) ((m.drop (64 * n)).take 64)
/-- how many noughts the padding has -/
def zpad (n : Nat) : Nat := (119 - n % 64) % 64
def be8 (n : Nat) : List UInt8 := (List.range 8).map fun i => UInt8.ofNat (n / 2 ^ (56 - 8 * i))
def padd (m : List UInt8) : List UInt8 := m ++ ([128] ++ (List.replicate (zpad m.length) 0 ++ be8 (8 * m.length)))
def w4 (x : UInt32) : List UInt8 := [(shr x 24).toUInt8, (shr x 16).toUInt8, (shr x 8).toUInt8, x.toUInt8]
def hbytes (s : HS) : List UInt8 := w4 s.a ++ (w4 s.b ++ (w4 s.c ++ (w4 s.d ++ (w4 s.e ++ (w4 s.f ++ (w4 s.g ++ w4 s.h))))))
/-- SHA-256 -/
def sha (m : List UInt8) : List UInt8 := hbytes (blks (padd m) ((padd m).length / 64))
theorem padd_len (m : List UInt8) : (padd m).length % 64 = 0 := by
  unfold padd zpad be8
  simp only [List.length_append, List.length_replicate, List.length_map, List.length_range, List.length_singleton]
  omega
def padK (k : List UInt8) (with' : UInt8) : List UInt8 := (List.range 64).map fun i => byteAt k i ^^^ with'
def shortK (k : List UInt8) : List UInt8 := if k.length ≤ 64 then k else sha k
/-- the authentication code of a text -/
def mac (k t : List UInt8) : List UInt8 := sha (padK (shortK k) 0x5c ++ sha (padK (shortK k) 0x36 ++ t))
theorem sha_len (m : List UInt8) : (sha m).length = 32 := rfl
theorem mac_len (k t : List UInt8) : (mac k t).length = 32 := rfl
end Go.Proofs.YtackbjbmadkkhaaDoor
