/- group: rest of a digest. -/
import Derived.Test.YtmhmenmkgbebcaaDoorErt
import Derived.Test.YtmhmenmkgbebcaaDoorGre
namespace Go.Proofs.YtmhmenmkgbebcaaDoor
open Go.RowKit
def cM : Nat := 2305843009213688668
theorem bitLen_M : Lib.bitLen cM + 3 = 64 := by decide +kernel
def foldM (n : Nat) (b : UInt8) : Nat := (256 * n + b.toNat) % cM
theorem or_lo (n : Nat) (b : UInt8) : bits BinOp.or .u64 (IntKind.u64.wrap ((n : Int) * 256)) (IntKind.u64.wrap (b.toNat : Int)) = ((n * 256 % 18446744073709551616 + b.toNat : Nat) : Int) := by
  have hb := b.toNat_lt
  have e1 : IntKind.u64.wrap ((n : Int) * 256) = ((n * 256 % 18446744073709551616 : Nat) : Int) := by
    have := wrap_nat (n * 256)
    rw [Int.natCast_mul] at this; exact this
  have e2 : IntKind.u64.wrap (b.toNat : Int) = ((b.toNat : Nat) : Int) := Go.Proofs.Mul64.wrapN _ (by omega)
  rw [e1, e2]
  have hA : n * 256 % 18446744073709551616 = (n % 72057594037927936) * 2 ^ 8 := by omega
  have ho := or_add (n * 256 % 18446744073709551616) b.toNat 8 (n % 72057594037927936) hA (by omega)
  have hbo := bits_or_u64_nat (n * 256 % 18446744073709551616) b.toNat (Nat.mod_lt _ (by decide)) (by omega)
  rw [hbo, ho]
theorem fold_num (n : Nat) (b : UInt8) (hn : n < cM) : n / 72057594037927936 < cM ∧ n * 256 % 18446744073709551616 + b.toNat < 18446744073709551616 ∧ (n / 72057594037927936 * 18446744073709551616 + (n * 256 % 18446744073709551616 + b.toNat)) % cM = foldM n b := by
  have hb := b.toNat_lt
  unfold cM at *
  refine ⟨by omega, by omega, ?_⟩
  unfold foldM cM
  congr 1; omega
set_option maxRecDepth 100000 in
set_option maxHeartbeats 1000000 in
theorem fold_any (b : UInt8) (N M n : Nat) (w : World) (hn : n < cM) (hN : w.cell? ⟨N, 0, none⟩ = some (.int .u64 n)) (hM : w.cell? ⟨M, 0, none⟩ = some (.int .u64 (cM : Int))) (hf : w.frozen? ⟨N, 0, none⟩ = false) :
    Calls Tryd.prog 61 #[.int .u8 b.toNat, .pointer (some ⟨N, 0, none⟩), .pointer (some ⟨M, 0, none⟩)] w fun e w' => e = .returned (.tuple #[]) ∧ w'.cell? ⟨N, 0, none⟩ = some (.int .u64 (foldM n b : Nat)) ∧ w'.frozen? ⟨N, 0, none⟩ = false ∧ w.grownBy w' (some N) := by
  obtain ⟨h1, h2, h3⟩ := fold_num n b hn
  have e0 : (n : Int) / 72057594037927936 = ((n / 72057594037927936 : Nat) : Int) := by omega
  have e1 := or_lo n b
  obtain ⟨hi, hhi⟩ : ∃ hi, n / 72057594037927936 = hi := ⟨_, rfl⟩
  obtain ⟨lo, hlo⟩ : ∃ lo, n * 256 % 18446744073709551616 + b.toNat = lo := ⟨_, rfl⟩
  obtain ⟨m, hm⟩ : ∃ m, cM = m := ⟨_, rfl⟩
  obtain ⟨r, hr⟩ : ∃ r, foldM n b = r := ⟨_, rfl⟩
  rw [hhi] at h1 h3 e0; rw [hlo] at h2 h3 e1; rw [hr] at h3 ⊢
  have H1 := Lib.hid h1; have H2 := Lib.hid h2; have H3 := Lib.hid h3
  have hcont := Lib.hid (div64_any hi lo cM 3 bitLen_M (by decide) (by decide) (by decide) (by decide) h1 h2)
  rw [hm] at hM hcont H3
  clear h1 h2 h3 hhi hlo hr hm H1 H2 hn
  go_enter Tryd.func61, Tryd.ntmps61
  go_wp2_with fail
  refine (hcont.out _).mono ?_
  rw [H3.out]
  generalize (hi * 18446744073709551616 + lo) / m = qq
  rintro e w1 ⟨rfl, hb1⟩
  have hNl := World.block_lt_of_cell? w _ hN
  have c1 := (hb1.cell (p := ⟨N, 0, none⟩) hNl).trans hN
  have f1 := (hb1.frozen (p := ⟨N, 0, none⟩) hNl).trans hf
  have HB1 := Lib.hid hb1
  clear hb1
  go_wp2
  go_end0
  refine ⟨rfl, World.cell?_setCell_same _ _ _ c1, by rw [World.frozen?_setCell]; exact f1, ?_⟩
  exact grown_setR ⟨HB1.out.os, HB1.out.tape, HB1.out.output, HB1.out.size, fun k hk _ => HB1.out.block k hk⟩
end Go.Proofs.YtmhmenmkgbebcaaDoor
