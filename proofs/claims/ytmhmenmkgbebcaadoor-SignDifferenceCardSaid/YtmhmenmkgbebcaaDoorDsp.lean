/- SHA-256 in plain Lean. -/
import Derived.Test.YtmhmenmkgbebcaaDoorDwd
namespace Go.Proofs.YtmhmenmkgbebcaaDoor

def kL : List W32 := [0x428a2f98, 0x71374491, 0xb5c0fbcf, 0xe9b5dba5, 0x3956c25b, 0x59f111f1, 0x923f82a4, 0xab1c5ed5,
  0xd807aa98, 0x12835b01, 0x243185be, 0x550c7dc3, 0x72be5d74, 0x80deb1fe, 0x9bdc06a7, 0xc19bf174,
  0xe49b69c1, 0xefbe4786, 0x0fc19dc6, 0x240ca1cc, 0x2de92c6f, 0x4a7484aa, 0x5cb0a9dc, 0x76f988da,
  0x983e5152, 0xa831c66d, 0xb00327c8, 0xbf597fc7, 0xc6e00bf3, 0xd5a79147, 0x06ca6351, 0x14292967,
  0x27b70a85, 0x2e1b2138, 0x4d2c6dfc, 0x53380d13, 0x650a7354, 0x766a0abb, 0x81c2c92e, 0x92722c85,
  0xa2bfe8a1, 0xa81a664b, 0xc24b8b70, 0xc76c51a3, 0xd192e819, 0xd6990624, 0xf40e3585, 0x106aa070,
  0x19a4c116, 0x1e376c08, 0x2748774c, 0x34b0bcb5, 0x391c0cb3, 0x4ed8aa4a, 0x5b9cca4f, 0x682e6ff3,
  0x748f82ee, 0x78a5636f, 0x84c87814, 0x8cc70208, 0x90befffa, 0xa4506ceb, 0xbef9a3f7, 0xc67178f2]
def kK (t : Nat) : W32 := kL.getD t 0
/-- one byte more of a word -/
def wd (n : W32) (c : UInt8) : W32 := n <<< 8 ||| BitVec.ofNat 32 c.toNat
def word (l : List UInt8) : W32 := (l.take 4).foldl wd 0
def ssig0 (x : W32) : W32 := ror x 7 ^^^ ror x 18 ^^^ x >>> 3
def ssig1 (x : W32) : W32 := ror x 17 ^^^ ror x 19 ^^^ x >>> 10
def wNext (a x c y : W32) : W32 := a + ssig0 x + c + ssig1 y
def sched : Nat → List W32 → List W32
  | 0, l => l
  | n + 1, l => sched n l ++ [wNext ((sched n l).getD n 0) ((sched n l).getD (n + 1) 0) ((sched n l).getD (n + 9) 0) ((sched n l).getD (n + 14) 0)]
theorem sched_len (n : Nat) (l : List W32) : (sched n l).length = l.length + n := by
  induction n with
  | zero => rfl
  | succ n ih => simp [sched, ih]; omega
structure S8 where
  a : W32
  b : W32
  c : W32
  d : W32
  e : W32
  f : W32
  g : W32
  h : W32
def S8.l (s : S8) : List W32 := [s.a, s.b, s.c, s.d, s.e, s.f, s.g, s.h]
def S8.add (s t : S8) : S8 := ⟨s.a + t.a, s.b + t.b, s.c + t.c, s.d + t.d, s.e + t.e, s.f + t.f, s.g + t.g, s.h + t.h⟩
def rndP (s : S8) (k w : W32) : W32 := s.h + rot3 s.e 6 11 25 + (s.g ^^^ s.e &&& (s.f ^^^ s.g)) + k + w
def rndQ (s : S8) : W32 := rot3 s.a 2 13 22 + (s.a &&& s.b ||| s.c &&& (s.a ||| s.b))
def rnd (s : S8) (k w : W32) : S8 := ⟨rndP s k w + rndQ s, s.a, s.b, s.c, s.d + rndP s k w, s.e, s.f, s.g⟩
def rounds (s : S8) (ws : List W32) : Nat → S8
  | 0 => s
  | t + 1 => rnd (rounds s ws t) (kK t) (ws.getD t 0)
def words (b : List UInt8) : List W32 := (List.range 16).map fun t => word (b.drop (4 * t))
theorem words_len (b : List UInt8) : (words b).length = 16 := by simp [words]
def blockS (s : S8) (b : List UInt8) : S8 := s.add (rounds s (sched 48 (words b)) 64)
def absorbs : Nat → S8 → List UInt8 → S8
  | 0, s, _ => s
  | n + 1, s, l => absorbs n (blockS s (l.take 64)) (l.drop 64)
def startS : S8 := ⟨0x6a09e667, 0xbb67ae85, 0x3c6ef372, 0xa54ff53a, 0x510e527f, 0x9b05688c, 0x1f83d9ab, 0x5be0cd19⟩
/-- n bytes of a number, the most significant one first -/
def be (n v : Nat) : List UInt8 := (List.range n).map fun i => (v / 2 ^ (8 * (n - 1 - i))).toUInt8
theorem be_len (n v : Nat) : (be n v).length = n := by simp [be]
def pad (l : List UInt8) : List UInt8 := l ++ 128 :: (List.replicate ((119 - l.length % 64) % 64) 0 ++ be 8 (8 * l.length))
theorem pad_len (l : List UInt8) : (pad l).length % 64 = 0 ∧ (pad l).length = l.length + 9 + (119 - l.length % 64) % 64 := by
  have h : (pad l).length = l.length + 9 + (119 - l.length % 64) % 64 := by simp [pad, be_len]; omega
  exact ⟨by omega, h⟩
def sha (l : List UInt8) : List UInt8 := (absorbs ((pad l).length / 64) startS (pad l)).l.flatMap fun x => be 4 x.toNat
theorem sha_len (l : List UInt8) : (sha l).length = 32 := by simp [sha, S8.l, be_len]
end Go.Proofs.YtmhmenmkgbebcaaDoor
