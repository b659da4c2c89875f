/- A bucket's take as the reference has it. -/
import Derived.Test.YtdfjeoifeladfaaBucketI
namespace Go.Proofs.Ytdfjeoifeladfaa.Bucket
open Go.RowKit

theorem itake_any (num den burst level at0 sat sb : Int) (w : World) : Calls Try.prog 25 #[.agg #[(.int .i64 num), (.int .i64 den), (.int .i64 burst), (.int .i64 level), (.int .i64 at0)], .agg #[(.int .i64 sat), (.int .i64 sb)]] w fun e w' => e = .returned (takeV (take ⟨num, den, burst, level, at0⟩ sat sb)) ∧ Below w.heap.size w w' := by
  rcases take_cases num den burst level at0 sat sb with ⟨hr, h⟩ | ⟨hr, h1, h⟩ | ⟨hr, h1, h2, h3, h⟩ | ⟨hr, h1, h2, h3, h4, h5, h⟩ | ⟨hr, h1, h2, h3, h4, h5, h⟩
  · rw [h]; exact itake_err1 num den burst level at0 sat sb w hr
  · rw [h]; exact itake_err2 num den burst level at0 sat sb w hr (by omega)
  · rw [h]; exact itake_err2 num den burst level at0 sat sb w hr (by omega)
  · exact itake_go num den burst level at0 sat sb w hr h1 h2 h3 h4
  · exact itake_go num den burst level at0 sat sb w hr h1 h2 h3 h4

end Go.Proofs.Ytdfjeoifeladfaa.Bucket
