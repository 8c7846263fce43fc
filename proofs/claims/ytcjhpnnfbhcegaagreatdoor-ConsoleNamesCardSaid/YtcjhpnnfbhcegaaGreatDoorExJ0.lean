/- General facts on the row's closed facts. Conditions: none. -/
import Derived.ProofKit
import Derived.SevenTiedAt
namespace Go.Proofs.YtcjhpnnfbhcegaaGreatDoor
open Go
theorem joined_of {P : Program} {f : FuncId} {fn : Func} {s : ChangeSpec} {c : OpenClaim}
    (h1 : c.wf (OpenSpec.ofChange s) = true)
    (h2 : laidOutB P = true)
    (h3 : mapsRowed P = true)
    (h4 : fn.params.all (P.readableRec ·) = true)
    (h5 : namedTie P c.named s.vars = true)
    (h6 : (c.stops == []) = true)
    (h7 : (P.stops == []) = true)
    (h8 : (c.knobs == []) = true)
    (h9 : (P.stopKnobs == []) = true)
    (h10 : (c.inPlace == P.inPlace f) = true)
    (h11 : (c.unfollowed == P.unfollowed f) = true)
    (h12 : (c.recurses == P.recurses f) = true)
    (h13 : (c.named == P.varsNamed f) = true)
    (h14 : (c.maps == (fn.params.toList ++ s.plain.varTypes P).any (P.mapsRec ·)) = true)
    (h15 : (c.ifaces == (fn.params.toList ++ s.plain.varTypes P).any (P.ifacesRec ·)) = true)
    (h16 : (c.mapsOut == P.mapsAmong fn.resultTypes.toList) = true)
    (h17 : (c.loops == (fn.params.toList ++ s.plain.varTypes P).any (P.loopsFrom ·)) = true)
    (h18 : (c.wideKeys == (fn.params.toList ++ s.plain.varTypes P ++ fn.resultTypes.toList).any (P.wideKeysFrom ·)) = true)
    (h19 : s.vars.all (P.varReadable ·) = true)
    (h20 : fn.resultTypes.all (fun t => P.readableRec t && decide (t < P.types.size)) = true)
    (h21 : (c.ifacesOut == fn.resultTypes.toList.any (P.ifacesRec ·)) = true)
    (h22 : (c.loopsOut == fn.resultTypes.toList.any (P.loopsFrom ·)) = true)
    (h23 : (c.plainKeys == P.plainKeys) = true)
    (h24 : c.shortTexts.isNone = true)
    (h25 : P.stopsHeard = true)
    (h26 : P.mayEnter = true)
    (h27 : (c.lifted == P.liftsFinal) = true)
    (h28 : (P.make == some c.make) = true)
    (h30 : (c.pinned == c.pinnedBy) = true)
    (h31 : (c.veiled == (fn.params.toList ++ s.plain.varTypes P ++ fn.resultTypes.toList).any (P.veiledRec ·)) = true)
    (h32 : c.veiledFits P fn.params.toList (fn.params.toList ++ s.plain.varTypes P ++ fn.resultTypes.toList) = true)
    (h29 : c.domain.isEmpty = true ∧ (c.kinds == []) = true) : joinedFacts P f fn s c = true := by
  unfold joinedFacts
  simp only [Bool.and_eq_true]
  exact ⟨⟨⟨⟨⟨⟨⟨⟨⟨⟨⟨⟨⟨⟨⟨⟨⟨⟨⟨⟨⟨⟨⟨⟨⟨⟨⟨⟨⟨⟨⟨h1, h2⟩, h3⟩, h4⟩, h5⟩, h6⟩, h7⟩, h8⟩, h9⟩, h10⟩, h11⟩, h12⟩, h13⟩, h14⟩, h15⟩, h16⟩, h17⟩, h18⟩, h19⟩, h20⟩, h21⟩, h22⟩, h23⟩, h24⟩, h25⟩, h26⟩, h27⟩, h28⟩, (by rw [if_pos h29.1]; exact h29.2)⟩, h30⟩, h31⟩, h32⟩
theorem range_two {n : Nat} (a : Nat) {p : Nat → Bool} (h : a ≤ n) (h1 : (List.range' 0 a).all p = true) (h2 : (List.range' a (n - a)).all p = true) : (List.range n).all p = true := by
  have e : List.range n = List.range' 0 a ++ List.range' a (n - a) := by
    rw [List.range_eq_range', ← (show a + (n - a) = n by omega), ← List.range'_append_1]
    simp
  rw [e, List.all_append, h1, h2]
  rfl
theorem laidOut_of {P : Program} (h1 : (List.range P.types.size).all (rowFine P) = true) (h2 : P.globals.all (fun g => decide (g.type < P.types.size)) = true) (h3 : P.funcs.all (fun f => f.params.all fun t => decide (t < P.types.size)) = true) : laidOutB P = true := by
  unfold laidOutB
  rw [h1, h2, h3]
  rfl
theorem goes_none {P : Program} (h : P.funcs.any Func.goes = false) {c : OpenClaim} (hs : c.start = .entering) : false = c.goesBy P := by
  have hg : ∀ f, P.goes f = false := by
    intro f
    unfold Program.goes
    rw [h, Bool.and_false, Bool.or_false, List.any_eq_false]
    intro g _ hc
    cases hf : P.funcs[g]? with
    | none => rw [hf] at hc; cases hc
    | some fn =>
      rw [hf] at hc
      obtain ⟨hi, hx⟩ := Array.getElem?_eq_some_iff.1 hf
      have := Array.any_eq_false.1 h g hi
      rw [hx] at this
      exact this hc
  unfold OpenClaim.goesBy Program.goesAt Program.goesFrom
  rw [hs]
  cases P.funcNamed c.func with
  | none => rfl
  | some f => simp [hg f]
end Go.Proofs.YtcjhpnnfbhcegaaGreatDoor
