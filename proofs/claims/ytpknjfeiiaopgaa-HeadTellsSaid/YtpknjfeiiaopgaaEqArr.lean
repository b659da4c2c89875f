/- Two addresses of four bytes, compared. -/
import Derived.Test.YtpknjfeiiaopgaaMem
namespace Go.Proofs.Ytpknjfeiiaopgaa
open Go.RowKit

theorem eq_addr4 (m : Nat) (a b c d a' b' c' d' : Int) (w : World) : (Op.equalIn (m + 2) 24 (.agg #[.int .u8 a, .int .u8 b, .int .u8 c, .int .u8 d]) (.agg #[.int .u8 a', .int .u8 b', .int .u8 c', .int .u8 d'])).run Try.prog w = .ok (a == a' && b == b' && c == c' && d == d') w := by
  rw [Op.equalIn]
  simp only [Sem.run_bind, run_underlying Try.underlying24, Result.andThen_ok]
  simp only [Std.Legacy.Range.forIn_eq_forIn_range', Std.Legacy.Range.size, Nat.sub_zero, Nat.add_sub_cancel, Nat.div_one, List.range'_succ, List.range'_zero, List.forIn_cons, List.forIn_nil]
  go_simp
  by_cases h1 : a = a' <;> by_cases h2 : b = b' <;> by_cases h3 : c = c' <;> by_cases h4 : d = d' <;> simp [h1, h2, h3, h4]
end Go.Proofs.Ytpknjfeiiaopgaa
