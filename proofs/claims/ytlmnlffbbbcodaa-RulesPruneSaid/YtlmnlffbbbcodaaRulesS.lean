/- Rules and heads as they lie in memory. -/
import Derived.Test.YtlmnlffbbbcodaaTrieA
namespace Go.Proofs.Ytlmnlffbbbcodaa.Rules
open Go.RowKit Go.Proofs.Ytlmnlffbbbcodaa.Trie

structure Rule where
  (sa sb sc sd da db dc dd : Int)
  (srcBits dstBits proto low high cls : Int)
def Rule.cells (r : Rule) : List Value := [.int .u8 r.sa, .int .u8 r.sb, .int .u8 r.sc, .int .u8 r.sd, .int .u8 r.da, .int .u8 r.db, .int .u8 r.dc, .int .u8 r.dd, .int .i64 r.srcBits, .int .i64 r.dstBits, .int .i64 r.proto, .int .i64 r.low, .int .i64 r.high, .int .i64 r.cls]
def Rule.bytes (r : Rule) : Prop := (By r.sa ∧ By r.sb ∧ By r.sc ∧ By r.sd) ∧ By r.da ∧ By r.db ∧ By r.dc ∧ By r.dd
structure Head where
  (sa sb sc sd da db dc dd : Int)
  (proto sport dport length mark : Int)
def Head.cells (r : Head) : List Value := [.int .u8 r.sa, .int .u8 r.sb, .int .u8 r.sc, .int .u8 r.sd, .int .u8 r.da, .int .u8 r.db, .int .u8 r.dc, .int .u8 r.dd, .int .i64 r.proto, .int .i64 r.sport, .int .i64 r.dport, .int .i64 r.length, .int .i64 r.mark]
def Head.bytes (r : Head) : Prop := (By r.sa ∧ By r.sb ∧ By r.sc ∧ By r.sd) ∧ By r.da ∧ By r.db ∧ By r.dc ∧ By r.dd

theorem within_in (v q : Int) (m : Nat) (hm : m ≤ 32) : within v q m = (pre q m * 2 ^ (32 - m) == pre v m * 2 ^ (32 - m)) := by
  rw [pre_beq]
  unfold within
  rw [show decide ((0 : Int) ≤ (m : Int)) = true from by simp, show decide ((m : Int) ≤ 32) = true from decide_eq_true (by omega), Int.toNat_natCast]
  simp [eq_comm]

end Go.Proofs.Ytlmnlffbbbcodaa.Rules
