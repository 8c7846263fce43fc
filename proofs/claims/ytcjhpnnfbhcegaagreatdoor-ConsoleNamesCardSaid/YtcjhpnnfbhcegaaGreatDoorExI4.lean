/- The law's call hands back true and changes nothing that was there, where the listed variables are laid. Conditions: those of the row. -/
import Derived.Test.YtcjhpnnfbhcegaaGreatDoorExI2
import Derived.Test.YtcjhpnnfbhcegaaGreatDoorExI3
import Derived.Test.YtcjhpnnfbhcegaaGreatDoorRows
import Derived.ProofKit
import Derived.Lib.LaidTab
import Derived.LaidHandle
namespace Go.Proofs.YtcjhpnnfbhcegaaGreatDoor
open Go

/-- a table of bytes that stands first on the list -/
theorem tab_row {P : Program} {W : World} {name : String} {zs : List Nat} {rest : List (String × DataW Unit)} {g t e n : Nat} (hg : P.globalNamed name = some g) (hty : (P.globals[g]?).map (·.type) = some t) (ht : P.underlying t = some (.array n e))
    (he : P.underlying e = some (.int .u8)) (hce : P.cellsOf e = 1) (hct : P.cellsOf t = n) (hpos : 0 < zs.length) (h : laidMet P ((name, Lib.tabData .u8 (zs.map Int.ofNat)) :: rest) W) :
    ∃ C ty, W.heap[g]? = some (.cells C ty (0, 0)) ∧ zs.length ≤ C.size ∧ ∀ (i z : Nat), zs[i]? = some z → C[i]? = some (.int .u8 (.ofNat z)) := by
  have hT := Lib.tabIs_of_head hg hty ht he hce hct h
  obtain ⟨ps, ⟨g', t', cs, fuel, p, q, hg', ht', hvar, hd, hq, hps⟩, hnd, hcell⟩ := h
  obtain rfl := Option.some.inj (hg.symm.trans hg')
  have hcs : cs = ((zs.map Int.ofNat).map fun z => Value.int .u8 z).toArray := Option.some.inj (hvar.symm.trans hT)
  have hsz : 0 < cs.size := by rw [hcs]; simpa using hpos
  have hmem : MemPlace.cell g 0 ∈ ps := by
    rw [hps]
    refine List.mem_append_left _ (List.mem_append_left _ ?_)
    unfold MemPlace.row
    exact List.mem_map.2 ⟨0, List.mem_range.2 hsz, rfl⟩
  obtain ⟨⟨C, ty, hh⟩, _⟩ := hcell g 0 hmem
  have key : ∀ (i z : Nat), zs[i]? = some z → C[i]? = some (.int .u8 (.ofNat z)) := by
    intro i z hz
    have hi : i < (zs.map Int.ofNat).length := by have := (List.getElem?_eq_some_iff.1 hz).1; simpa using this
    have h1 := hT.cell hg i hi
    simp only [World.cell?, hh] at h1
    have h2 : (zs.map Int.ofNat).getD i 0 = Int.ofNat z := by
      rw [List.getD_eq_getElem?_getD, List.getElem?_map, hz]
      rfl
    rw [h2] at h1
    simpa using h1
  refine ⟨C, ty, hh, ?_, key⟩
  have h3 := key (zs.length - 1) zs[zs.length - 1] (List.getElem?_eq_getElem (by omega))
  have := (Array.getElem?_eq_some_iff.1 h3).1
  omega
theorem laid_plain {W : World} (h : laidMetH Tryz.prog Rows.consoleNamesRow.laid W) : laidMet Tryz.prog [("math/bits.deBruijn64tab", Rows.laid_math_bits_deBruijn64tab), ("internal/strconv.uint64pow10", Rows.laid_internal_strconv_uint64pow10), ("math/bits.deBruijn32tab", Rows.laid_math_bits_deBruijn32tab), ("unicode/utf8.first", Rows.laid_unicode_utf8_first), ("unicode/utf8.acceptRanges", Rows.laid_unicode_utf8_acceptRanges)] W :=
  (show laidMet Tryz.prog [("math/bits.deBruijn64tab", Rows.laid_math_bits_deBruijn64tab), ("internal/strconv.uint64pow10", Rows.laid_internal_strconv_uint64pow10), ("math/bits.deBruijn32tab", Rows.laid_math_bits_deBruijn32tab), ("unicode/utf8.first", Rows.laid_unicode_utf8_first), ("unicode/utf8.acceptRanges", Rows.laid_unicode_utf8_acceptRanges)] W ∧ handlesMet Tryz.prog _ W from h).1
theorem bruijn_row {W : World} (h : laidMetH Tryz.prog Rows.consoleNamesRow.laid W) : ∃ C ty, W.heap[4]? = some (.cells C ty (0, 0)) ∧ bruijn.length ≤ C.size ∧ ∀ (i z : Nat), bruijn[i]? = some z → C[i]? = some (.int .u8 (.ofNat z)) := by
  have e : (Rows.laid_math_bits_deBruijn64tab : DataW Unit) = Lib.tabData .u8 (bruijn.map Int.ofNat) := by kernel_rfl
  have h1 := laid_plain h
  rw [e] at h1
  exact tab_row (by kernel_rfl) (by kernel_rfl) Tryz.underlying507 Tryz.underlying5 (by kernel_rfl) (by kernel_rfl) (by decide) h1
theorem walk (W : World) (h : laidMetH Tryz.prog Rows.consoleNamesRow.laid W) : Calls Tryz.prog 3 #[] W fun e w' => e = .returned (.bool true) ∧ Go.RowKit.Below W.heap.size W w' := by
  obtain ⟨C, ty, h1, h2, h3⟩ := bruijn_row h
  refine (Go.Ex.calls_of_run mixed glOk evLaw (Go.Ex.glob1 4 C.size) (Go.Ex.hrTab (by decide) h1 h2 h3)).mono fun e w' ⟨⟨v, y, τ, hp, he, hv⟩, hb⟩ => ⟨?_, hb⟩
  rw [he, Go.Ex.isT_ok hp hv]
end Go.Proofs.YtcjhpnnfbhcegaaGreatDoor
