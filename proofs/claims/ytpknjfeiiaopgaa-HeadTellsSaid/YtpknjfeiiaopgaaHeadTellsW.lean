/- The walk of the law HeadTells: both cases. -/
import Derived.Test.YtpknjfeiiaopgaaHdL
namespace Go.Proofs.Ytpknjfeiiaopgaa.HeadTells
open Go.RowKit Go.Proofs.Ytpknjfeiiaopgaa.E Go.Proofs.Ytpknjfeiiaopgaa.Head

theorem walk (h : Hd) (ho : h.ok) (A : Option Addr) (n c : Nat) (l : List Int) (w : World) (hr : RdI .u8 w A l) (hn : l.length = n) (hz : ∀ z ∈ l, 0 ≤ z ∧ z ≤ 255) (hm : n ≤ 140737488355328) (hc : n ≤ c) :
    Calls Try.prog 4 #[.agg #[.int .u8 h.s0, .int .u8 h.s1, .int .u8 h.s2, .int .u8 h.s3, .int .u8 h.d0, .int .u8 h.d1, .int .u8 h.d2, .int .u8 h.d3, (.int .i64 h.pr), (.int .i64 h.sp), (.int .i64 h.dp), (.int .i64 h.ln), (.int .i64 h.mr)], .slice A n c] w fun e w' => e = .returned (.bool true) ∧ Below w.heap.size w w' := by
  refine to_bel ?_
  by_cases hw : wr h = 0
  · exact law_ok h ho A n c l w hr hn hz hm hc hw
  · exact law_bad h ho A n c l w hr hn hz hm hc hw
end Go.Proofs.Ytpknjfeiiaopgaa.HeadTells
