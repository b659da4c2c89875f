/- A script among the arguments: opened, and how many things happen in it. -/
import Derived.Test.YtfcpmcdlgkfolaaDoorFrameS
import Derived.Test.YtfcpmcdlgkfolaaDoorBnX
namespace Go.Proofs.YtfcpmcdlgkfolaaDoor
open Go.RowKit Go.ChangeShapes Go.WideShapes Go.ChangeAt

theorem bulk_nest {H : Type} {d : DataW H} {l : List (DataW H)} (h : d ∈ l) : Rows.uptoBulk d ≤ Rows.uptoBulk (.agg l) := by
  have := bulk_mem h
  simp only [Rows.uptoBulk]
  omega
theorem slice_bulk {H : Type} {enc : TypeId × Value → H} {P : Program} {W : World} {base : Nat} {spare : Nat → Bool} {held : Bool} {t e : TypeId} {A : Option Addr} {n c m : Nat} {y : DataW H × List MemPlace}
    (ht : P.underlying t = some (.slice e)) (hc : 0 < P.cellsOf e) (h : DataW.trod enc P W base spare held m t [.slice A n c] = some y) : n ≤ Rows.uptoBulk y.1 := by
  obtain ⟨A', n', c', es, ds, m', hcs, hlc, hes, hds, hd, hrd, hel⟩ := sl_open ht hc h
  simp only [List.cons.injEq, Value.slice.injEq, and_true] at hcs
  obtain ⟨rfl, rfl, rfl⟩ := hcs
  rcases hd with ⟨h0, _⟩ | ⟨sp, hd⟩
  · omega
  · rw [hd]
    have := bulk_len ds
    simp only [Rows.uptoBulk]
    omega
/-- The last field of a script. -/
theorem script_bulk {H : Type} {enc : TypeId × Value → H} {P : Program} {W : World} {base : Nat} {spare : Nat → Bool} {held : Bool} {t e ee sl : TypeId} {fs : Array Field} {x y z : Value} {A : Option Addr} {n c : Nat} {d : DataW H} {p : List MemPlace}
    (ts : P.underlying sl = some (.slice ee)) (hce : 0 < P.cellsOf ee) (ht : P.underlying t = some (.struct fs)) (hT : fs.toList.map (fun f => (f.type, f.offset, P.cellsOf f.type)) = [e, e, e, sl].zipIdx.map (fun x => (x.1, x.2, 1)))
    (h : DataW.Trod enc P W base spare held t (.agg #[x, y, z, .slice A n c]) d p) : n ≤ Rows.uptoBulk d := by
  obtain ⟨fuel, hf⟩ := h
  obtain ⟨xs, m, _, hd, hl, hlen, hfl⟩ := DataW.trod_struct ht hf
  obtain rfl : d = .agg (xs.map (·.1)) := congrArg Prod.fst hd
  have h1 : (fs.toList.map (fun f => (f.type, f.offset, P.cellsOf f.type)))[3]? = some (sl, 3, 1) := by rw [hT]; rfl
  rw [List.getElem?_map, Option.map_eq_some_iff] at h1
  obtain ⟨f, hfi, hfe⟩ := h1
  simp only [Prod.mk.injEq] at hfe
  obtain ⟨e1, e2, e3⟩ := hfe
  have hfi' : fs[3]? = some f := by simpa using hfi
  have hix : 3 < xs.length := by rw [hlen]; exact (Array.getElem?_eq_some_iff.1 hfi').1
  have h2 := hfl 3 f hfi'
  rw [e2, e3, e1, List.getElem?_eq_getElem hix] at h2
  exact Nat.le_trans (slice_bulk ts hce h2) (bulk_nest (List.mem_map.2 ⟨xs[3], List.getElem_mem hix, rfl⟩))
end Go.Proofs.YtfcpmcdlgkfolaaDoor
