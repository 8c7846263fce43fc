/- sum.More hands back the sum of the bytes that lie in the row, and writes nothing that was there. Conditions: the table's contract. -/
import Derived.Test.YtcjhpnnfbhcegaaGreatDoorExI1
import Derived.WalkKit
import Derived.Below
import Derived.LoopTactic
namespace Go.Proofs.YtcjhpnnfbhcegaaGreatDoor
open Go.RowKit
open Go.Ex (nthN sumTab sumHalf sumByte sumL sumF forceN)

theorem slow_u64 (f : Nat → Nat → Nat) (a b : Nat) (ha : a < 18446744073709551616) (hb : b < 18446744073709551616) (s : Int) : Go.Ex.bits2 f .u64 (a : Int) (b : Int) s = ((f a b : Nat) : Int) := by
  have h1 : Nat.blt a (Go.Ex.lim .u64) = true := Nat.blt_eq.mpr ha
  have h2 : Nat.blt b (Go.Ex.lim .u64) = true := Nat.blt_eq.mpr hb
  show (match Nat.blt a (Go.Ex.lim .u64), Nat.blt b (Go.Ex.lim .u64) with
    | true, true => Int.ofNat (f a b)
    | _, _ => s) = _
  rw [h1, h2]
  rfl
theorem bits_xor_u64 (a b : Nat) (ha : a < 18446744073709551616) (hb : b < 18446744073709551616) : bits .xor .u64 (a : Int) (b : Int) = ((Nat.xor a b : Nat) : Int) := by
  have h := Go.Ex.bits2_xor .u64 (a : Int) (b : Int)
  rw [slow_u64 _ a b ha hb] at h
  exact h.symm
theorem bits_and_u64 (a b : Nat) (ha : a < 18446744073709551616) (hb : b < 18446744073709551616) : bits .and .u64 (a : Int) (b : Int) = ((Nat.land a b : Nat) : Int) := by
  have h := Go.Ex.bits2_and .u64 (a : Int) (b : Int)
  rw [slow_u64 _ a b ha hb] at h
  exact h.symm
theorem and15 (a : Nat) (ha : a < 18446744073709551616) : bits .and .u64 (a : Int) 15 = ((a % 16 : Nat) : Int) := by
  rw [show (15 : Int) = ((15 : Nat) : Int) from rfl, bits_and_u64 a 15 ha (by decide)]
  have : Nat.land a 15 = a % 16 := Nat.and_two_pow_sub_one_eq_mod a 4
  rw [this]
theorem xor_lt (a b : Nat) (ha : a < 18446744073709551616) (hb : b < 18446744073709551616) : Nat.xor a b < 18446744073709551616 :=
  Nat.xor_lt_two_pow (n := 64) ha hb
theorem not_u64 (a : Nat) (ha : a < 18446744073709551616) : bits .xor .u64 IntKind.u64.max (a : Int) = ((18446744073709551615 - a : Nat) : Int) := by
  rw [show IntKind.u64.max = ((18446744073709551615 : Nat) : Int) from rfl, bits_xor_u64 _ a (by decide) ha]
  congr 1
  show 18446744073709551615 ^^^ a = 18446744073709551615 - a
  have h := BitVec.toNat_not (x := BitVec.ofNat 64 a)
  have h2 : (~~~ BitVec.ofNat 64 a) = BitVec.allOnes 64 ^^^ BitVec.ofNat 64 a := by rw [BitVec.not_def]
  rw [h2, BitVec.toNat_xor] at h
  simp only [BitVec.toNat_allOnes, BitVec.toNat_ofNat] at h
  rw [Nat.mod_eq_of_lt (by simpa using ha)] at h
  simpa using h
theorem tab_lt (i : Nat) (h : i < 16) : nthN sumTab i < 18446744073709551616 := by
  have : ∀ i : Fin 16, nthN sumTab i.val < 18446744073709551616 := by decide
  exact this ⟨i, h⟩
theorem wrap_byte (x : Nat) (h : x < 256) : IntKind.u64.wrap (x : Int) = (x : Int) := Go.Ex.wrap_small .u64 x (show x < 18446744073709551616 by omega)
theorem half_lt (s : Nat) (h : s < 18446744073709551616) : sumHalf s < 18446744073709551616 := by
  unfold sumHalf
  exact xor_lt _ _ (by show s / 16 < _; omega) (tab_lt _ (Nat.mod_lt _ (by decide)))
theorem sumL_cons (x : Nat) (l : List Nat) (s : Nat) : sumL (x :: l) s = sumL l (sumByte s x) := by
  show forceN (sumHalf (Nat.xor s x)) (fun s => forceN (sumHalf s) (sumL l)) = _
  have fe : ∀ {α : Type} (n : Nat) (f : Nat → α), forceN n f = f n := by intro α n f; cases n <;> rfl
  rw [fe, fe]
  rfl
theorem sumL_take (bs : List Nat) (s k : Nat) (hk : k < bs.length) : sumL (bs.take (k + 1)) s = sumByte (sumL (bs.take k) s) (bs.getD k 0) := by
  have key : ∀ (l : List Nat) (s x : Nat), sumL (l ++ [x]) s = sumByte (sumL l s) x := by
    intro l
    induction l with
    | nil => intro s x; simp only [List.nil_append, sumL_cons]; rfl
    | cons y l ih => intro s x; rw [List.cons_append, sumL_cons, sumL_cons, ih]
  have : bs.take (k + 1) = bs.take k ++ [bs.getD k 0] := by
    rw [List.take_add_one]
    simp [List.getD, List.getElem?_eq_getElem hk]
  rw [this, key]

theorem more_row (table_any : ∀ w : World, Calls Tryz.prog 388 #[] w fun e w' => e = .returned (.agg #[.int .u64 0, .int .u64 9051005139383707209, .int .u64 18102010278767414418, .int .u64 9704381199536204507, .int .u64 7257036000092981153, .int .u64 1814259000023245288, .int .u64 11493583972846619443, .int .u64 16292555063049989498, .int .u64 14514072000185962306, .int .u64 13040162471224305931, .int .u64 3628518000046490576, .int .u64 5746791986423309721, .int .u64 12527462061959317731, .int .u64 15006518869663149738, .int .u64 6263731030979658865, .int .u64 3131865515489829432]) ∧ Below w.heap.size w w')
    (s : Nat) (b off cap : Nat) (bs : List Nat) (w : World) (hs : s < 18446744073709551616) (hm : bs.length ≤ 1073741824) (hb : b < w.heap.size) (h256 : ∀ x ∈ bs, x < 256)
    (hc : ∀ j, j < bs.length → w.cell? ⟨b, off + j, none⟩ = some (.int .u8 (bs.getD j 0 : Nat))) :
    Calls Tryz.prog 364 #[.int .u64 s, .slice (some ⟨b, off, none⟩) bs.length cap] w fun e w' => e = .returned (.int .u64 (sumF s bs : Nat)) ∧ Below w.heap.size w w' := by
  have hsum : ∀ k, k ≤ bs.length → sumL (bs.take k) (18446744073709551615 - s) < 18446744073709551616 := by
    intro k
    induction k with
    | zero => intro _; show 18446744073709551615 - s < _; omega
    | succ k ih =>
      intro hk
      rw [sumL_take bs _ k (by omega)]
      refine half_lt _ (half_lt _ (xor_lt _ _ (ih (by omega)) ?_))
      have : bs.getD k 0 < 256 := by
        rw [List.getD_eq_getElem?_getD, List.getElem?_eq_getElem (by omega)]
        exact h256 _ (List.getElem_mem _)
      omega
  have hnot := not_u64 s hs
  go_enter Tryz.func364, Tryz.ntmps364
  go_wp2_with (go_at_call 388; refine (table_any _).mono ?_; rintro e w1 ⟨rfl, hb1⟩)
  clear hnot
  have hBel : Below w.heap.size w (w1.alloc (.cells #[.int .u64 0, .int .u64 9051005139383707209, .int .u64 18102010278767414418, .int .u64 9704381199536204507, .int .u64 7257036000092981153, .int .u64 1814259000023245288, .int .u64 11493583972846619443, .int .u64 16292555063049989498, .int .u64 14514072000185962306, .int .u64 13040162471224305931, .int .u64 3628518000046490576, .int .u64 5746791986423309721, .int .u64 12527462061959317731, .int .u64 15006518869663149738, .int .u64 6263731030979658865, .int .u64 3131865515489829432] 528)) := hb1.alloc hb1.size _
  generalize hlen : bs.length = len at *
  generalize hWd : w1.alloc _ = W at hBel ⊢
  generalize htb : w1.heap.size = tb at *
  have hT : ∀ i : Nat, i < 16 → W.cell? ⟨tb, i, none⟩ = some (.int .u64 (nthN sumTab i : Nat)) := by
    intro i hi
    subst hWd
    subst htb
    have h1 : ∀ i : Nat, i < 16 → (#[.int .u64 0, .int .u64 9051005139383707209, .int .u64 18102010278767414418, .int .u64 9704381199536204507, .int .u64 7257036000092981153, .int .u64 1814259000023245288, .int .u64 11493583972846619443, .int .u64 16292555063049989498, .int .u64 14514072000185962306, .int .u64 13040162471224305931, .int .u64 3628518000046490576, .int .u64 5746791986423309721, .int .u64 12527462061959317731, .int .u64 15006518869663149738, .int .u64 6263731030979658865, .int .u64 3131865515489829432] : Array Value)[i]? = some (.int .u64 (nthN sumTab i : Nat)) := by
      intro i hi
      match i, hi with
      | 0, _ | 1, _ | 2, _ | 3, _ | 4, _ | 5, _ | 6, _ | 7, _ | 8, _ | 9, _ | 10, _ | 11, _ | 12, _ | 13, _ | 14, _ | 15, _ => rfl
      | n + 16, h => exact absurd h (by omega)
    have h2 : ∀ o : Obj, (w1.alloc o).heap[w1.heap.size]? = some o := by
      intro o
      show (w1.heap.push o)[w1.heap.size]? = some o
      simp
    simp only [World.cell?, h2]
    exact h1 i hi
  have hC : ∀ j, j < len → W.cell? ⟨b, off + j, none⟩ = some (.int .u8 (bs.getD j 0 : Nat)) := by
    intro j hj
    rw [hBel.cell (p := ⟨b, off + j, none⟩) hb]
    exact hc j hj
  have HS : Hid (∀ k, k ≤ len → sumL (bs.take k) (18446744073709551615 - s) < 18446744073709551616) := hsum
  have HT : Hid (∀ i : Nat, i < 16 → W.cell? ⟨tb, i, none⟩ = some (.int .u64 (nthN sumTab i : Nat))) := hT
  have HC : Hid (∀ j, j < len → W.cell? ⟨b, off + j, none⟩ = some (.int .u8 (bs.getD j 0 : Nat))) := hC
  have HB : Hid (Below w.heap.size w W) := hBel
  have H2 : Hid (∀ x ∈ bs, x < 256) := h256
  clear hWd hb1 htb hb hc hsum hT hC hBel h256
  go_loop [6, 14] (fun t i => ∃ k : Nat, k ≤ len ∧ i = .int .i64 k ∧ t = .int .u64 (sumL (bs.take k) (18446744073709551615 - s) : Nat)) (fun _ i => len - (intOf i).toNat)
  case atStart => exact ⟨0, Nat.zero_le _, rfl, rfl⟩
  case round =>
    obtain ⟨k, hk, rfl, rfl⟩ := hrel
    have hcell : k < len → W.cell? ⟨b, off + k, none⟩ = some (.int .u8 (bs.getD k 0 : Nat)) := fun h => HC.out k h
    have hS := HS.out k hk
    have hx : bs.getD k 0 < 256 := by
      rw [List.getD_eq_getElem?_getD]
      rcases Nat.lt_or_ge k bs.length with h | h
      · rw [List.getElem?_eq_getElem h]; exact H2.out _ (List.getElem_mem _)
      · rw [List.getElem?_eq_none h]; decide
    have hstep : k < len → sumL (bs.take (k + 1)) (18446744073709551615 - s) = sumByte (sumL (bs.take k) (18446744073709551615 - s)) (bs.getD k 0) := fun h => sumL_take bs _ k (by omega)
    have hend : Hid (k = len → sumF s bs = 18446744073709551615 - sumL (bs.take k) (18446744073709551615 - s)) := fun h => by
      have : bs.take k = bs := by rw [h, ← hlen, List.take_length]
      rw [this]; rfl
    have HStep : Hid (k < len → sumL (bs.take (k + 1)) (18446744073709551615 - s) = sumByte (sumL (bs.take k) (18446744073709551615 - s)) (bs.getD k 0)) := hstep
    clear hstep
    generalize sumL (bs.take k) (18446744073709551615 - s) = S at *
    generalize bs.getD k 0 = x at *
    have e1 := bits_xor_u64 S x hS (by omega)
    rw [← wrap_byte x hx] at e1
    have hA : Nat.xor S x < 18446744073709551616 := xor_lt _ _ hS (by omega)
    have dA : sumByte S x = sumHalf (sumHalf (Nat.xor S x)) := rfl
    generalize Nat.xor S x = A at *
    have e2 := and15 A hA
    have h16 : A % 16 < 16 := Nat.mod_lt _ (by decide)
    have c1 := HT.out _ h16
    have hB : sumHalf A < 18446744073709551616 := half_lt _ hA
    have e3 := bits_xor_u64 (A / 16) (nthN sumTab (A % 16)) (by omega) (tab_lt _ h16)
    have dB : Nat.xor (A / 16) (nthN sumTab (A % 16)) = sumHalf A := rfl
    rw [dB] at e3
    rw [Int.natCast_ediv] at e3
    generalize nthN sumTab (A % 16) = T1 at *
    generalize A % 16 = i1 at *
    generalize sumHalf A = B at *
    have e4 := and15 B hB
    have h16' : B % 16 < 16 := Nat.mod_lt _ (by decide)
    have c2 := HT.out _ h16'
    have hD : sumHalf B < 18446744073709551616 := half_lt _ hB
    have e5 := bits_xor_u64 (B / 16) (nthN sumTab (B % 16)) (by omega) (tab_lt _ h16')
    have dD : Nat.xor (B / 16) (nthN sumTab (B % 16)) = sumHalf B := rfl
    rw [dD] at e5
    rw [Int.natCast_ediv] at e5
    generalize nthN sumTab (B % 16) = T2 at *
    generalize B % 16 = i2 at *
    generalize sumHalf B = D at *
    have HA : Hid (sumByte S x = D) := dA
    have e6 : Hid (bits .xor .u64 IntKind.u64.max (S : Int) = ((18446744073709551615 - S : Nat) : Int)) := not_u64 S hS
    have e3' : bits .xor .u64 ((A : Int) / 16) (T1 : Int) = (B : Int) := e3
    have e5' : bits .xor .u64 ((B : Int) / 16) (T2 : Int) = (D : Int) := e5
    clear e3 e5 dA dB dD hA hB hD hS hx
    go_wp2
    · refine ⟨⟨k + 1, by omega, by simp, ?_⟩, by simp [intOf]; omega⟩
      rw [HStep.out (by assumption), HA.out]
    · have hkl : k = len := by omega
      rw [e6.out]
      go_ret
      exact ⟨by rw [hend.out hkl]; rfl, HB.out⟩
theorem more_empty (table_any : ∀ w : World, Calls Tryz.prog 388 #[] w fun e w' => e = .returned (.agg #[.int .u64 0, .int .u64 9051005139383707209, .int .u64 18102010278767414418, .int .u64 9704381199536204507, .int .u64 7257036000092981153, .int .u64 1814259000023245288, .int .u64 11493583972846619443, .int .u64 16292555063049989498, .int .u64 14514072000185962306, .int .u64 13040162471224305931, .int .u64 3628518000046490576, .int .u64 5746791986423309721, .int .u64 12527462061959317731, .int .u64 15006518869663149738, .int .u64 6263731030979658865, .int .u64 3131865515489829432]) ∧ Below w.heap.size w w')
    (s : Nat) (a : Option Addr) (cap : Nat) (w : World) (hs : s < 18446744073709551616) :
    Calls Tryz.prog 364 #[.int .u64 s, .slice a 0 cap] w fun e w' => e = .returned (.int .u64 (sumF s [] : Nat)) ∧ Below w.heap.size w w' := by
  have hnot := not_u64 s hs
  have hq : 18446744073709551615 - s < 18446744073709551616 := by omega
  have hend : Hid (sumF s [] = 18446744073709551615 - (18446744073709551615 - s)) := rfl
  have e6 : Hid (bits .xor .u64 IntKind.u64.max ((18446744073709551615 - s : Nat) : Int) = ((18446744073709551615 - (18446744073709551615 - s) : Nat) : Int)) := not_u64 _ hq
  clear hq hs
  generalize 18446744073709551615 - s = q at *
  go_enter Tryz.func364, Tryz.ntmps364
  go_wp2_with (go_at_call 388; refine (table_any _).mono ?_; rintro e w1 ⟨rfl, hb1⟩)
  clear hnot
  have hBel : Below w.heap.size w (w1.alloc (.cells #[.int .u64 0, .int .u64 9051005139383707209, .int .u64 18102010278767414418, .int .u64 9704381199536204507, .int .u64 7257036000092981153, .int .u64 1814259000023245288, .int .u64 11493583972846619443, .int .u64 16292555063049989498, .int .u64 14514072000185962306, .int .u64 13040162471224305931, .int .u64 3628518000046490576, .int .u64 5746791986423309721, .int .u64 12527462061959317731, .int .u64 15006518869663149738, .int .u64 6263731030979658865, .int .u64 3131865515489829432] 528)) := hb1.alloc hb1.size _
  generalize hWd : w1.alloc _ = W at hBel ⊢
  have HB : Hid (Below w.heap.size w W) := hBel
  clear hWd hb1 hBel
  go_loop [6, 14] (fun t i => i = .int .i64 0 ∧ t = .int .u64 (q : Nat)) (fun _ _ => 0)
  case atStart => exact ⟨rfl, rfl⟩
  case round =>
    obtain ⟨rfl, rfl⟩ := hrel
    go_wp2
    rw [e6.out]
    go_ret
    exact ⟨by rw [hend.out]; rfl, HB.out⟩
theorem more_ok : Go.Ex.PureOk Tryz.prog 364 .sumMore := by
  intro s a cap bs w hs h256 hm hb
  have key : ∀ (b off : Nat) (w : World), b < w.heap.size → (∀ j, j < bs.length → w.cell? ⟨b, off + j, none⟩ = some (.int .u8 (bs.getD j 0 : Nat))) →
      Calls Tryz.prog 364 #[.int .u64 s, .slice (some ⟨b, off, none⟩) bs.length cap] w fun e w' => e = .returned (.int .u64 (sumF s bs : Nat)) ∧ Below w.heap.size w w' :=
    fun b off w hb hc => more_row table_any s b off cap bs w hs hm hb h256 hc
  rcases hb with rfl | ⟨b, off, rfl, hc⟩
  · exact more_empty table_any s a cap w hs
  · by_cases hne : bs = []
    · subst hne
      exact more_empty table_any s (some ⟨b, off, none⟩) cap w hs
    · have h0 : 0 < bs.length := Nat.pos_of_ne_zero fun h => hne (List.length_eq_zero_iff.1 h)
      refine key b off w ?_ fun j hj => ?_
      · have := hc 0 bs[0] (List.getElem?_eq_getElem h0)
        unfold World.cell? at this
        rcases Nat.lt_or_ge b w.heap.size with h | h
        · exact h
        · simp [Array.getElem?_eq_none h] at this
      · have := hc j bs[j] (List.getElem?_eq_getElem hj)
        rw [this, List.getD_eq_getElem?_getD, List.getElem?_eq_getElem hj]
        rfl
theorem glOk : Go.Ex.GlOk Tryz.prog G := Go.Ex.glOk_of ut_ok inf_ok fn_ok fnm_ok ext_ok peq_ok (fun f x h => by
    have h' : (match Nat.beq f 364 with | true => some Go.Ex.PF.sumMore | false => none) = some x := h
    split at h'
    · rename_i hf
      cases h'
      have hf' : f = 364 := Nat.eq_of_beq_eq_true hf
      subst hf'
      exact ⟨⟨Tryz.f364, _, by kernel_rfl, rfl⟩, more_ok⟩
    · cases h')
end Go.Proofs.YtcjhpnnfbhcegaaGreatDoor
