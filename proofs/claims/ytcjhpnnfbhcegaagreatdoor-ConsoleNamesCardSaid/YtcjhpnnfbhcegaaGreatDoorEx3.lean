/- Operations that hand back a value. Conditions: the tables are the program's. -/
import Derived.Test.YtcjhpnnfbhcegaaGreatDoorEx2
import Derived.Laws.Tables
/- Operations that hand back a value and do no more, one by one (fourth part). Conditions: the tables that the executor asks are the program's. -/
namespace Go.Ex
open Go.RowKit (Below)
section
variable {N : Nat} {σ : Sg} {h : AH} {w : World} {P : Program} {G : Gl} {A : Array Value} {tm : T SV} {nt : Nat}

theorem bound_up {x : SV} {y y' l : Nat} (e : bound x y = some l) (hle : y ≤ y') : bound x y' = some l := by
  unfold bound at e ⊢
  split at e
  · split at e
    · rename_i h1
      cases e
      rw [ble_true.2 (Nat.le_trans (ble_true.1 h1) hle)]
    · cases e
  · cases e
theorem boundO_le {x : Option SV} {y d l : Nat} (e : boundO x y d = some l) (hd : d ≤ y) : l ≤ y := by
  cases x with
  | none => simp only [boundO] at e; cases e; exact hd
  | some v => exact bound_le (by simpa only [boundO] using e)

theorem sliceSV_ok (K : GlOk P G) (H : HR N σ h w) {t : TypeId} {x r : SV} {v : Value} {lo hi mx : Option SV} {lo' hi' mx' : Option Value} (hx : VR σ x v)
    (hlo : OptR σ lo lo') (hhi : OptR σ hi hi') (hmx : OptR σ mx mx') (hok : mxOk hi mx = true) (e : sliceSV G t x lo hi mx h = some r) :
    ∃ z, (Instr.sliceAt t v lo' hi' mx').run P w = .ok z w ∧ VR σ r z := by
  have hmh : ∀ y, mx = some y → hi ≠ none := by
    rintro y rfl rfl
    simp [mxOk] at hok
  unfold sliceSV at e
  unfold Instr.sliceAt
  split at e
  · -- a slice
    rename_i b off len cap sz ex
    split at e
    · rename_i el hu
      rw [Sem.run_bind, run_underlying' K hu, Result.andThen_ok]
      simp only
      split at e
      · rename_i size hsz
        split at e
        · rename_i m hq e1
          have hq := beq_true.1 hq
          subst hq
          split at e
          · rename_i r' e2
            split at e
            · rename_i l e3
              simp only [VR] at hx
              obtain ⟨cb, d, n, a, c, hs, hd, rfl, hlc, hcc, hex, ha, hroom⟩ := hx
              -- what the real capacity gives
              obtain ⟨m', e1', hm', hmx'⟩ : ∃ m', boundO mx c c = some m' ∧ m ≤ m' ∧ ((mx ≠ none ∧ m' = m) ∨ (mx = none ∧ m = cap ∧ m' = c)) := by
                cases mx with
                | none => simp only [boundO] at e1 ⊢; cases e1; exact ⟨c, rfl, hcc, .inr (by simp)⟩
                | some y => simp only [boundO] at e1 ⊢; exact ⟨m, bound_up e1 hcc, Nat.le_refl _, .inl ⟨by simp, rfl⟩⟩
              have hmc : m' ≤ c := by
                cases mx with
                | none => simp only [boundO] at e1'; cases e1'; exact Nat.le_refl _
                | some y => simp only [boundO] at e1'; exact bound_le e1'
              have e2' : boundO hi m' len = some r' := by
                cases hi with
                | none => simpa only [boundO] using e2
                | some y => simp only [boundO] at e2 ⊢; exact bound_up e2 hm'
              have hrm : r' ≤ m := by
                cases hi with
                | none =>
                  simp only [boundO] at e2
                  cases e2
                  rcases hmx' with ⟨h1, _⟩ | ⟨_, h2, _⟩
                  · cases mx with
                    | none => exact absurd rfl h1
                    | some y => exact absurd rfl (hmh y rfl)
                  · omega
                | some y => simp only [boundO] at e2; exact bound_le e2
              have hlr : l ≤ r' := boundO_le e3 (Nat.zero_le _)
              have hb := sliceBounds_ok (P := P) (w := w) (isSl := true) hlo hhi hmx e1' e2' e3 hmh
              have hrun : (Instr.slice t (.slice (some a) len c) lo' hi' mx').run P w = .ok (.slice (if m' = l then some a else some (a.add (l * size))) (r' - l) (m' - l)) w := by
                unfold Instr.slice
                rw [Sem.run_bind, run_underlying' K hu, Result.andThen_ok]
                simp only [Sem.run_bind, hb, Result.andThen_ok, run_sizeOf K hsz, Sem.run_pure]
                rfl
              refine ⟨_, hrun, ?_⟩
              have addr : 0 < c → a = ⟨cb, off - d, none⟩ := by
                intro h0
                rcases ha with ha | ha
                · exact ha
                · omega
              have hmul : l * size + (m' - l) * size ≤ c * size := by
                rw [← Nat.add_mul]
                exact Nat.mul_le_mul_right _ (by omega)
              have goal2 : ∀ (ex2 : Bool) (mm : Nat), mm ≤ m' → r' ≤ mm → (ex2 = true → m' = mm) → (m' = l → ex2 = false ∨ mm ≠ l) →
                  VR σ (.slice b (Nat.add off (Nat.mul l size)) (Nat.sub r' l) (Nat.sub mm l) size ex2) (.slice (if m' = l then some a else some (a.add (l * size))) (r' - l) (m' - l)) := by
                intro ex2 mm h1 h2 h3 h4
                refine ⟨cb, d, n, (if m' = l then a else a.add (l * size)), m' - l, hs, by show d ≤ off + l * size; omega, ?_, ?_, ?_, ?_, ?_, ?_⟩
                · split <;> rfl
                · show r' - l ≤ mm - l; omega
                · show mm - l ≤ m' - l; omega
                · intro hx; have := h3 hx; show m' - l = mm - l; omega
                · by_cases hml : m' = l
                  · right; omega
                  · left
                    rw [if_neg hml, addr (by omega), addr_add]
                    show (⟨cb, off - d + l * size, none⟩ : Addr) = ⟨cb, off + l * size - d, none⟩
                    rw [show off - d + l * size = off + l * size - d from by omega]
                · show off + l * size - d + (m' - l) * size ≤ n
                  omega
              have ends : ∀ ex2 : Bool, (ex2 = true → m' = m) →
                  VR σ (match Nat.beq m l, ex2 with
                    | true, true => SV.slice b off (Nat.sub r' l) 0 size true
                    | _, _ => SV.slice b (Nat.add off (Nat.mul l size)) (Nat.sub r' l) (Nat.sub m l) size ex2) (.slice (if m' = l then some a else some (a.add (l * size))) (r' - l) (m' - l)) := by
                intro ex2 h3
                cases hml : Nat.beq m l with
                | false => exact goal2 ex2 m hm' hrm h3 (fun hh => by right; exact beq_false.1 hml)
                | true =>
                  cases ex2 with
                  | false => exact goal2 false m hm' hrm h3 (fun hh => by left; rfl)
                  | true =>
                    have hml' := beq_true.1 hml
                    have hmm := h3 rfl
                    rw [if_pos (by omega)]
                    refine ⟨cb, d, n, a, 0, hs, hd, ?_, ?_, Nat.le_refl _, fun _ => rfl, .inr rfl, ?_⟩
                    · show Value.slice (some a) (r' - l) (m' - l) = Value.slice (some a) (r' - l) 0
                      rw [show m' - l = 0 from by omega]
                    · show r' - l ≤ 0; omega
                    · have : 0 ≤ c * size := Nat.zero_le _
                      omega
              have key : ∀ ex2 : Bool, (ex2 = true → m' = m) → (match Nat.beq m l, ex2 with
                    | true, true => some (SV.slice b off (Nat.sub r' l) 0 size true)
                    | _, _ => some (SV.slice b (Nat.add off (Nat.mul l size)) (Nat.sub r' l) (Nat.sub m l) size ex2)) = some r →
                  VR σ r (.slice (if m' = l then some a else some (a.add (l * size))) (r' - l) (m' - l)) := by
                intro ex2 h3 hr
                have := ends ex2 h3
                cases hml : Nat.beq m l <;> cases ex2 <;> rw [hml] at hr this <;> cases hr <;> exact this
              refine key _ ?_ e
              rcases hmx' with ⟨h1, h2⟩ | ⟨h1, h2, h3⟩
              · intro _; exact h2
              · subst h1
                intro hx
                rw [h3, h2]
                exact hex hx
            · cases e
          · cases e
        · cases e
      · cases e
    · cases e
  · -- a text
    rename_i s
    split at e
    · rename_i hu
      rw [Sem.run_bind, run_underlying' K hu, Result.andThen_ok]
      simp only
      split at e
      · rename_i r' e2
        split at e
        · rename_i l e3
          cases e
          simp only [VR] at hx
          obtain ⟨S, rfl, hS⟩ := hx
          simp only [OptR] at hmx
          subst hmx
          have hlen : s.length = S.size := by rw [← hS]; simp
          rw [hlen] at e2
          have hb := sliceBounds_ok (P := P) (w := w) (isSl := false) (mx := none) (cap := S.size) hlo hhi rfl rfl e2 e3 (fun _ h => by cases h)
          refine ⟨.string (S.extract l r'), ?_, S.extract l r', rfl, ?_⟩
          · unfold Instr.slice
            rw [Sem.run_bind, run_underlying' K hu, Result.andThen_ok]
            simp [hb]
          · rw [ByteArray.data_extract, Array.toList_extract, List.extract_eq_take_drop, hS]
        · cases e
      · cases e
    · cases e
  · -- the nil slice
    split at e
    · rename_i el hu
      rw [Sem.run_bind, run_underlying' K hu, Result.andThen_ok]
      simp only
      split at e
      · rename_i size m hsz e1
        split at e
        · rename_i r' e2
          split at e
          · rename_i l e3
            cases e
            simp only [VR] at hx
            subst hx
            have hm : m ≤ 0 := boundO_le e1 (Nat.le_refl _)
            have hr : r' ≤ m := boundO_le e2 (Nat.zero_le _)
            have hl : l ≤ r' := boundO_le e3 (Nat.zero_le _)
            have hb := sliceBounds_ok (P := P) (w := w) (isSl := true) hlo hhi hmx e1 e2 e3 hmh
            refine ⟨.slice none 0 0, ?_, rfl⟩
            unfold Instr.slice
            rw [Sem.run_bind, run_underlying' K hu, Result.andThen_ok]
            simp only [Sem.run_bind, hb, Result.andThen_ok, run_sizeOf K hsz, Sem.run_pure]
            rw [show r' - l = 0 from by omega, show m - l = 0 from by omega, if_pos (by omega)]
          · cases e
        · cases e
      · cases e
    · cases e
  · -- an array behind a pointer
    rename_i b off
    split at e
    · rename_i n el hu
      rw [Sem.run_bind, run_underlying' K hu, Result.andThen_ok]
      simp only
      split at e
      · rename_i size hsz
        split at e
        · rename_i m hin e1
          split at e
          · rename_i r' e2
            split at e
            · rename_i l e3
              simp only [VR] at hx
              obtain ⟨cb, d, ext, hs, hd, rfl⟩ := hx
              have hin' : off + n * size ≤ d + ext := by
                unfold arrIn at hin
                split at hin
                · rename_i k hk
                  obtain ⟨C, ee, fz, _, _, q3, _⟩ := H.obj b _ cb d ext hk hs
                  have := ble_true.1 hin
                  have h2 : off + n * size ≤ k.n := this
                  omega
                · cases hin
              have hm : m ≤ n := boundO_le e1 (Nat.le_refl _)
              have hr : r' ≤ m := by
                cases hi with
                | none =>
                  simp only [boundO] at e2
                  cases e2
                  cases mx with
                  | none => simp only [boundO] at e1; cases e1; exact Nat.le_refl _
                  | some y => exact absurd rfl (hmh y rfl)
                | some y => simp only [boundO] at e2; exact bound_le e2
              have hl : l ≤ r' := boundO_le e3 (Nat.zero_le _)
              have hb := sliceBounds_ok (P := P) (w := w) (isSl := false) hlo hhi hmx e1 e2 e3 hmh
              refine ⟨.slice (some (if m = l then ⟨cb, off - d, none⟩ else (⟨cb, off - d, none⟩ : Addr).add (l * size))) (r' - l) (m - l), ?_, ?_⟩
              · simp only [Instr.sureAddr, Sem.run_bind, Sem.run_pure, hb, Result.andThen_ok, run_sizeOf K hsz]
              · have hmul : l * size + (m - l) * size ≤ n * size := by
                  rw [← Nat.add_mul]
                  exact Nat.mul_le_mul_right _ (by omega)
                cases hml : Nat.beq m l with
                | true =>
                  rw [hml] at e
                  cases e
                  have hml' := beq_true.1 hml
                  rw [if_pos hml']
                  refine ⟨cb, d, ext, ⟨cb, off - d, none⟩, 0, hs, hd, ?_, by show r' - l ≤ 0; omega, Nat.le_refl _, fun _ => rfl, .inr rfl, by omega⟩
                  rw [show m - l = 0 from by omega]
                  rfl
                | false =>
                  rw [hml] at e
                  cases e
                  have hml' := beq_false.1 hml
                  rw [if_neg hml', addr_add]
                  refine ⟨cb, d, ext, _, m - l, hs, by show d ≤ off + l * size; omega, rfl, by show r' - l ≤ m - l; omega, Nat.le_refl _, fun _ => rfl, .inl ?_, ?_⟩
                  · show (⟨cb, off - d + l * size, none⟩ : Addr) = ⟨cb, off + l * size - d, none⟩
                    rw [show off - d + l * size = off + l * size - d from by omega]
                  · show off + l * size - d + (m - l) * size ≤ ext
                    omega
            · cases e
          · cases e
        · cases e
      · cases e
    · cases e
  · cases e
end
end Go.Ex

/- Operations that hand back a value and do no more, one by one (fifth part). Conditions: the tables that the executor asks are the program's. -/
namespace Go.Ex
open Go.RowKit (Below)
section
variable {N : Nat} {σ : Sg} {h : AH} {w : World} {P : Program} {G : Gl} {A : Array Value} {tm : T SV} {nt : Nat}

theorem fieldAddrSV_ok (K : GlOk P G) {s : TypeId} {x r : SV} {v : Value} {f : Nat} (hx : VR σ x v) (e : fieldAddrSV G s x f = some r) :
    ∃ z, (Instr.fieldAt s v f).run P w = .ok z w ∧ VR σ r z := by
  unfold fieldAddrSV at e
  split at e
  · rename_i b off
    split at e
    · rename_i fs hu
      split at e
      · rename_i fd hfd
        split at e
        · rename_i n hn
          cases e
          simp only [VR] at hx
          obtain ⟨cb, d, m, hs, hd, rfl⟩ := hx
          refine ⟨.pointer (some ⟨cb, off + fd.offset - d, none⟩), ?_, cb, d, m, hs, by show d ≤ off + fd.offset; omega, rfl⟩
          unfold Instr.fieldAt
          rw [Sem.run_bind, run_underlying' K hu, Result.andThen_ok]
          simp only [hfd, Instr.sureAddr, fieldPlace, Sem.run_bind, Sem.run_pure, Result.andThen_ok, run_sizeOf K hn]
          rw [if_neg (by omega), Sem.run_pure, Result.andThen_ok, addr_add, show off - d + fd.offset = off + fd.offset - d from by omega]
        · cases e
      · cases e
    · cases e
  · cases e
theorem fieldSV_ok (K : GlOk P G) {t : TypeId} {cs : List SV} {C : Array Value} {r : SV} {f : Nat} (hx : VRL σ cs C.toList) (e : fieldSV G t f cs = some r) :
    ∃ z, (Instr.field t (.agg C) f).run P w = .ok z w ∧ VR σ r z := by
  unfold fieldSV at e
  split at e
  · rename_i fs hu
    split at e
    · rename_i fd hfd
      obtain ⟨z, z1, z2⟩ := run_part (P := P) (w := w) K hx e
      refine ⟨z, ?_, z2⟩
      unfold Instr.field
      rw [Sem.run_bind, run_underlying' K hu, Result.andThen_ok]
      simp only [hfd, asAgg, Sem.run_bind, Sem.run_pure, Result.andThen_ok]
      exact z1
    · cases e
  · cases e
theorem indexAddrSV_ok (K : GlOk P G) {t : TypeId} {x ix r : SV} {v u : Value} (hx : VR σ x v) (hi : VR σ ix u) (e : indexAddrSV G t x ix = some r) :
    ∃ z, (Instr.indexAt t v u).run P w = .ok z w ∧ VR σ r z := by
  unfold indexAddrSV at e
  split at e
  · rename_i k i
    simp only [VR] at hi
    subst hi
    split at e
    · rename_i b off len cap sz ex
      split at e
      · rename_i el hu
        split at e
        · rename_i s hlt hs
          cases e
          have hlt' := blt_true.1 hlt
          simp only [VR] at hx
          obtain ⟨cb, d, n, a, c, hs', hd, rfl, hlc, hcc, hex, ha, hroom⟩ := hx
          have ha' : a = ⟨cb, off - d, none⟩ := by
            rcases ha with ha | ha
            · exact ha
            · omega
          subst ha'
          refine ⟨.pointer (some ⟨cb, off + i * s - d, none⟩), ?_, cb, d, n, hs', by show d ≤ off + i * s; omega, rfl⟩
          unfold Instr.indexAt
          simp only [asIntOf, Sem.run_bind, Sem.run_pure, Result.andThen_ok, run_underlying' K hu]
          rw [if_pos (by simp only [Int.ofNat_eq_natCast]; omega)]
          simp only [Sem.run_bind, run_sizeOf K hs, Result.andThen_ok, Sem.run_pure, Int.ofNat_eq_natCast, Int.toNat_natCast]
          rw [addr_add, show off - d + i * s = off + i * s - d from by omega]
        · cases e
      · cases e
    · rename_i b off
      split at e
      · rename_i n el hu
        split at e
        · rename_i s hlt hs
          cases e
          have hlt' := blt_true.1 hlt
          simp only [VR] at hx
          obtain ⟨cb, d, m, hs', hd, rfl⟩ := hx
          refine ⟨.pointer (some ⟨cb, off + i * s - d, none⟩), ?_, cb, d, m, hs', by show d ≤ off + i * s; omega, rfl⟩
          unfold Instr.indexAt
          simp only [asIntOf, Sem.run_bind, Sem.run_pure, Result.andThen_ok, run_underlying' K hu, Instr.sureAddr]
          rw [if_pos (by simp only [Int.ofNat_eq_natCast]; omega)]
          simp only [Sem.run_bind, run_sizeOf K hs, Result.andThen_ok, Sem.run_pure, Int.ofNat_eq_natCast, Int.toNat_natCast]
          rw [addr_add, show off - d + i * s = off + i * s - d from by omega]
        · cases e
      · cases e
    · cases e
  · cases e
theorem indexSV_ok (K : GlOk P G) {t : TypeId} {x ix r : SV} {v u : Value} (hx : VR σ x v) (hi : VR σ ix u) (e : indexSV G t x ix = some r) :
    ∃ z, (Instr.index t v u).run P w = .ok z w ∧ VR σ r z := by
  unfold indexSV at e
  split at e
  · rename_i k i
    simp only [VR] at hi
    subst hi
    split at e
    · rename_i cs
      split at e
      · rename_i n el hu
        split at e
        · rename_i s hlt hs
          have hlt' := blt_true.1 hlt
          simp only [VR] at hx
          obtain ⟨C, rfl, hC⟩ := hx
          obtain ⟨z, z1, z2⟩ := run_part (P := P) (w := w) K hC e
          refine ⟨z, ?_, z2⟩
          unfold Instr.index
          simp only [asIntOf, Sem.run_bind, Sem.run_pure, Result.andThen_ok, run_underlying' K hu]
          rw [if_pos (by simp only [Int.ofNat_eq_natCast]; omega)]
          simp only [Sem.run_bind, run_sizeOf K hs, Result.andThen_ok, Int.ofNat_eq_natCast, Int.toNat_natCast]
          exact z1
        · cases e
      · cases e
    · rename_i s
      split at e
      · rename_i hu
        split at e
        · rename_i c r' hdr
          cases e
          simp only [VR] at hx
          obtain ⟨S, rfl, hS⟩ := hx
          have hget : S.data.toList[i]? = some c := by
            rw [hS]
            have : (s.drop i)[0]? = some c := by rw [hdr]; rfl
            simpa using this
          have hlt : i < S.size := by
            have := (List.getElem?_eq_some_iff.1 hget).1
            simpa using this
          have hc : S[i] = c := by
            have := (List.getElem?_eq_some_iff.1 hget).2
            exact this
          refine ⟨_, ?_, rfl⟩
          unfold Instr.index
          simp only [asIntOf, Sem.run_bind, Sem.run_pure, Result.andThen_ok, run_underlying' K hu, Int.ofNat_eq_natCast, Int.toNat_natCast]
          rw [if_pos (by omega), getElem?_pos S i hlt, hc]
          rfl
        · cases e
      · cases e
    · cases e
  · cases e
theorem max2_ok {x y r : SV} {v u : Value} (hx : VR σ x v) (hy : VR σ y u) (e : max2 x y = some r) : ∃ z, (Builtin.max2 v u).run P w = .ok z w ∧ VR σ r z := by
  unfold max2 at e
  split at e
  · cases e
    simp only [VR] at hx hy
    subst hx hy
    rename_i k a k' b
    refine ⟨_, rfl, ?_⟩
    simp only [VR]
    rw [ltF_eq]
    by_cases h : a < b <;> simp [h]
  · cases e
theorem min2_ok {x y r : SV} {v u : Value} (hx : VR σ x v) (hy : VR σ y u) (e : min2 x y = some r) : ∃ z, (Builtin.min2 v u).run P w = .ok z w ∧ VR σ r z := by
  unfold min2 at e
  split at e
  · cases e
    simp only [VR] at hx hy
    subst hx hy
    rename_i k a k' b
    refine ⟨_, rfl, ?_⟩
    simp only [VR]
    rw [ltF_eq]
    by_cases h : b < a <;> simp [h]
  · cases e
theorem foldO_ok {f : SV → SV → Option SV} {g : Value → Value → Sem Value} (hf : ∀ x y r v u, VR σ x v → VR σ y u → f x y = some r → ∃ z, (g v u).run P w = .ok z w ∧ VR σ r z) :
    ∀ (l : List SV) (x r : SV) (v : Value) (L : List Value), VR σ x v → VRL σ l L → foldO f x l = some r → ∃ z, (L.foldlM g v).run P w = .ok z w ∧ VR σ r z
  | [], x, r, v, L, hx, hl, e => by
    simp only [VRL] at hl
    subst hl
    simp only [foldO] at e
    cases e
    exact ⟨v, rfl, hx⟩
  | y :: l, x, r, v, L, hx, hl, e => by
    simp only [VRL] at hl
    obtain ⟨u, s, rfl, hy, hs⟩ := hl
    simp only [foldO] at e
    split at e
    · rename_i z hz
      obtain ⟨z', z1, z2⟩ := hf _ _ _ _ _ hx hy hz
      obtain ⟨q, q1, q2⟩ := foldO_ok hf l z r z' s z2 hs e
      refine ⟨q, ?_, q2⟩
      rw [List.foldlM_cons, Sem.run_bind, z1, Result.andThen_ok]
      exact q1
    · cases e

/-! ### maps: reading -/
theorem keyEq_ok {kt : TypeId} {D : TypeDesc} {x y : SV} {v u : Value} {b : Bool} (hD : G.ut kt = some D) (hp : plainKey G kt x = true) (hx : VR σ x v) (hy : VR σ y u) (e : keyEq x y = some b) :
    Instr.sameNow D v u = some b := by
  unfold plainKey at hp
  rw [hD] at hp
  cases x with
  | int k n =>
    cases D with
    | int kd =>
      cases y with
      | int k' n' =>
        simp only [keyEq] at e
        cases hk : kindEq k k' with
        | false => rw [hk] at e; cases e
        | true =>
          rw [hk] at e
          cases e
          simp only [VR] at hx hy
          subst hx hy
          simp [Instr.sameNow, kindEq_true hk, eqF_eq]
      | _ => cases e
    | _ => cases hp
  | str s =>
    cases D with
    | string =>
      cases y with
      | str s' =>
        simp only [keyEq] at e
        cases e
        simp only [VR] at hx hy
        obtain ⟨s1, rfl, h1⟩ := hx
        obtain ⟨s2, rfl, h2⟩ := hy
        simp only [Instr.sameNow]
        rw [bytesEq_eq, ← h1, ← h2]
        have hb : (s1 == s2) = (s1.data == s2.data) := rfl
        rw [hb]
        congr 1
        rw [Bool.eq_iff_iff]
        simp only [beq_iff_eq]
        exact ⟨fun hh => by rw [hh], fun hh => Array.ext' hh⟩
      | _ => cases e
    | _ => cases hp
  | _ => cases D <;> cases hp
/-- a look for a key: the entry found, and where -/
theorem findKey_ok {kt : TypeId} {D : TypeDesc} {k : SV} {kv : Value} (hD : G.ut kt = some D) (hp : plainKey G kt k = true) (hk : VR σ k kv) :
    ∀ (es : List (SV × SV × Nat)) (E : List MapEntry) (i : Nat) (r : Option (Nat × SV × Nat)), All2 (EntR σ) es E → findKey k es i = some r →
      ∃ r', Instr.findNow D kv E i = some r' ∧ match r with
        | none => r' = none
        | some (j, x, s) => ∃ z, r' = some (j, z) ∧ VR σ x z ∧ i ≤ j ∧ ∃ k' e', es[j - i]? = some (k', x, s) ∧ E[j - i]? = some e' ∧ e'.val = z ∧ e'.born = s ∧ Instr.sameNow D kv e'.key = some true
  | [], E, i, r, hE, e => by
    cases hE
    simp only [findKey] at e
    cases e
    exact ⟨none, rfl, rfl⟩
  | (k', x, s) :: es, E, i, r, hE, e => by
    cases hE with
    | cons h1 h2 =>
      rename_i e' E'
      obtain ⟨a1, a2, a3⟩ := h1
      simp only at a1 a2 a3
      simp only [findKey] at e
      split at e
      · rename_i hq
        cases e
        refine ⟨some (i, e'.val), ?_, e'.val, rfl, a2, Nat.le_refl _, k', e', by simp, by simp, rfl, a3, keyEq_ok hD hp hk a1 hq⟩
        simp only [Instr.findNow, keyEq_ok hD hp hk a1 hq]
      · rename_i hq
        obtain ⟨r', b1, b2⟩ := findKey_ok hD hp hk es E' (i + 1) r h2 e
        refine ⟨r', by simp only [Instr.findNow, keyEq_ok hD hp hk a1 hq]; exact b1, ?_⟩
        cases r with
        | none => exact b2
        | some q =>
          obtain ⟨j, x', s'⟩ := q
          obtain ⟨z, c1, c2, c3, k2, e2, c4, c5, c6, c7, c8⟩ := b2
          obtain ⟨m, rfl⟩ : ∃ m, j = i + 1 + m := ⟨j - (i + 1), by omega⟩
          rw [show i + 1 + m - (i + 1) = m from by omega] at c4 c5
          refine ⟨z, c1, c2, by omega, k2, e2, ?_, ?_, c6, c7, c8⟩
          · rw [show i + 1 + m - i = m + 1 from by omega]; simpa using c4
          · rw [show i + 1 + m - i = m + 1 from by omega]; simpa using c5
      · cases e
theorem plain_desc {kt : TypeId} {k : SV} (hp : plainKey G kt k = true) : ∃ D, G.ut kt = some D := by
  unfold plainKey at hp
  cases h : G.ut kt with
  | none => rw [h] at hp; cases hp
  | some D => exact ⟨D, rfl⟩
theorem checkKey_ok (K : GlOk P G) {kt : TypeId} {k : SV} {kv : Value} {b : Bool} (hp : plainKey G kt k = true) (hk : VR σ k kv) : (Instr.checkKey b 10000 kt kv).run P w = .ok () w := by
  obtain ⟨D, hD⟩ := plain_desc hp
  unfold plainKey at hp
  rw [hD] at hp
  show (do
    match ← underlying kt, kv with
    | .interface _, .iface d x =>
      let info ← typeInfo d
      if !info.comparable then
        if b then runtimePanic (.unhashable d)
        runtimePanic (.error ("hash of unhashable type " ++ (← typeStr d)))
      Instr.checkKey b 9999 d x
    | .array len elem, .agg cs =>
      for i in [0:len] do Instr.checkKey b 9999 elem (← part elem cs (i * (← sizeOf elem)))
    | .struct fields, .agg cs =>
      for f in fields do
        if f.name ≠ "_" then Instr.checkKey b 9999 f.type (← part f.type cs f.offset)
    | .interface _, .nilIface => pure ()
    | .interface _, _ | .array _ _, _ | .struct _, _ => stuck "map key: not a value of its type"
    | _, _ => pure () : Sem Unit).run P w = _
  rw [Sem.run_bind, run_underlying' K hD, Result.andThen_ok]
  cases k with
  | int kk n => cases D <;> first | (cases hp; done) | (simp only [VR] at hk; subst hk; rfl)
  | str s => cases D <;> first | (cases hp; done) | (simp only [VR] at hk; obtain ⟨S, rfl, _⟩ := hk; rfl)
  | _ => cases D <;> cases hp
theorem run_findKey (K : GlOk P G) {kt : TypeId} {D : TypeDesc} {kv : Value} {E : List MapEntry} {r : Option (Nat × Value)} (hD : G.ut kt = some D) (e : Instr.findNow D kv E 0 = some r) :
    (Instr.findKey kt kv E).run P w = .ok r w := by
  unfold Instr.findKey
  rw [Sem.run_bind, run_underlying' K hD, Result.andThen_ok, e]
  rfl
theorem HR.map (H : HR N σ h w) {b cb d n clock : Nat} {es : List (SV × SV × Nat)} (hb : h.t.get b = some (.map es clock)) (hs : σ b = some (cb, d, n)) :
    ∃ E : Array MapEntry, w.heap[cb]? = some (.map E clock) ∧ All2 (EntR σ) es E.toList := H.obj b _ cb d n hb hs
theorem run_getObj_map {cb : Nat} {E : Array MapEntry} {c : Nat} (e : w.heap[cb]? = some (.map E c)) : (getObj cb).run P w = .ok (.map E c) w := by
  simp [getObj, Sem.run, e]
theorem lookupSV_ok (K : GlOk P G) (H : HR N σ h w) {t : TypeId} {x k r : SV} {v kv : Value} {ok : Bool} (hx : VR σ x v) (hk : VR σ k kv) (e : lookupSV G t x k ok h = some r) :
    ∃ z, (Instr.lookup t v kv ok).run P w = .ok z w ∧ VR σ r z := by
  unfold lookupSV at e
  split at e
  · rename_i kt el hu
    split at e
    · rename_i es hp hes
      obtain ⟨D, hD⟩ := plain_desc hp
      -- the entries
      obtain ⟨E, hE, hrunE⟩ : ∃ E : Array MapEntry, All2 (EntR σ) es E.toList ∧ ((v = .map none ∧ E = #[]) ∨ ∃ cb c, v = .map (some cb) ∧ w.heap[cb]? = some (.map E c)) := by
        unfold entriesOf at hes
        split at hes
        · cases hes
          simp only [VR] at hx
          exact ⟨#[], .nil, .inl ⟨hx, rfl⟩⟩
        · rename_i b
          split at hes
          · rename_i es' clock hb
            cases hes
            simp only [VR] at hx
            obtain ⟨cb, d, n, hs, rfl⟩ := hx
            obtain ⟨E, q1, q2⟩ := H.map hb hs
            exact ⟨E, q2, .inr ⟨cb, _, rfl, q1⟩⟩
          · cases hes
        · cases hes
      have hrun : ∀ (val : Value) (is : Bool), (∃ r', Instr.findNow D kv E.toList 0 = some r' ∧ (match r' with | some (_, z) => is = true ∧ val = z | none => is = false ∧ (zeroValue el).run P w = .ok val w)) →
          (Instr.lookup t v kv ok).run P w = .ok (if ok then .tuple #[val, .bool is] else val) w := by
        intro val is ⟨r', hf, hr'⟩
        have tail : (do
            Instr.checkKey E.isEmpty 10000 kt kv
            let __do_lift ← Instr.findKey kt kv E.toList
            match __do_lift with
              | some (_, v) => do
                let __x ← pure (v, true)
                pure (if ok = true then Value.tuple #[__x.fst, Value.bool __x.snd] else __x.fst)
              | none => do
                let __do_lift ← zeroValue el
                let __x ← pure (__do_lift, false)
                pure (if ok = true then Value.tuple #[__x.fst, Value.bool __x.snd] else __x.fst) : Sem Value).run P w = .ok (if ok then .tuple #[val, .bool is] else val) w := by
          rw [Sem.run_bind, checkKey_ok K hp hk, Result.andThen_ok, Sem.run_bind, run_findKey K hD hf, Result.andThen_ok]
          cases r' with
          | none => obtain ⟨rfl, hz⟩ := hr'; simp only [Sem.run_bind, hz, Result.andThen_ok, Sem.run_pure]
          | some q => obtain ⟨j, z⟩ := q; obtain ⟨rfl, rfl⟩ := hr'; simp only [Sem.run_bind, Result.andThen_ok, Sem.run_pure]
        unfold Instr.lookup
        rw [Sem.run_bind, run_underlying' K hu, Result.andThen_ok]
        rcases hrunE with ⟨rfl, rfl⟩ | ⟨cb, c, rfl, hh⟩
        · simp only
          rw [Sem.run_bind, Sem.run_pure, Result.andThen_ok]
          exact tail
        · simp only
          rw [Sem.run_bind, run_getObj_map hh, Result.andThen_ok]
          simp only
          rw [Sem.run_bind, Sem.run_pure, Result.andThen_ok]
          exact tail
      split at e
      · rename_i j x' s hf
        cases e
        obtain ⟨r', f1, z, f2, f3, _⟩ := findKey_ok hD hp hk es E.toList 0 _ hE hf
        subst f2
        refine ⟨_, hrun z true ⟨_, f1, rfl, rfl⟩, ?_⟩
        cases ok with
        | true => exact ⟨_, rfl, z, [.bool true], rfl, f3, .bool true, [], rfl, rfl, rfl⟩
        | false => exact f3
      · rename_i hf
        split at e
        · rename_i z0 hz
          cases e
          obtain ⟨r', f1, f2⟩ := findKey_ok hD hp hk es E.toList 0 _ hE hf
          subst f2
          obtain ⟨z, g1, g2⟩ := run_zeroValue (P := P) (w := w) (σ := σ) K hz
          refine ⟨_, hrun z false ⟨_, f1, rfl, g1⟩, ?_⟩
          cases ok with
          | true => exact ⟨_, rfl, z, [.bool false], rfl, g2, .bool false, [], rfl, rfl, rfl⟩
          | false => exact g2
        · cases e
      · cases e
    · cases e
  · cases e
end
end Go.Ex

/- Operations that hand back a value and do no more, one by one (last part). Conditions: the tables that the executor asks are the program's. -/
namespace Go.Ex
open Go.RowKit (Below)
section
variable {N : Nat} {σ : Sg} {h : AH} {w : World} {P : Program} {G : Gl} {A : Array Value} {tm : T SV} {nt : Nat}

theorem bytesOf_ok : ∀ (l : List SV) (s : List UInt8), bytesOf l = some s → ∃ ns : List Nat, l = ns.map (fun n => SV.int .u8 (.ofNat n)) ∧ s = ns.map UInt8.ofNat
  | [], s, e => by simp only [bytesOf] at e; cases e; exact ⟨[], rfl, rfl⟩
  | x :: r, s, e => by
    unfold bytesOf at e
    split at e
    · rename_i heq
      cases heq
    · rename_i n r' heq
      cases heq
      split at e
      · rename_i l' hl
        cases e
        obtain ⟨ns, rfl, rfl⟩ := bytesOf_ok _ _ hl
        exact ⟨n :: ns, rfl, rfl⟩
      · cases e
    · cases e
theorem vrl_bytes : ∀ (ns : List Nat) (vs : List Value), VRL σ (ns.map (fun n => SV.int .u8 (.ofNat n))) vs → vs = (ns.map (fun (n : Nat) => (n : Int))).map (Value.int .u8)
  | [], vs, e => by simp only [List.map_nil, VRL] at e; subst e; rfl
  | n :: r, vs, e => by
    simp only [List.map_cons, VRL] at e
    obtain ⟨y, s, rfl, a, b⟩ := e
    simp only [VR] at a
    subst a
    rw [vrl_bytes r s b]
    rfl
theorem foldl_push (ns : List Nat) : ∀ (s : ByteArray), ((ns.map (fun (n : Nat) => (n : Int))).foldl (fun r n => r.push (UInt8.ofNat n.toNat)) s).data.toList = s.data.toList ++ ns.map UInt8.ofNat := by
  induction ns with
  | nil => intro s; simp
  | cons n r ih =>
    intro s
    simp only [List.map_cons, List.foldl_cons]
    rw [ih]
    simp [ByteArray.push]
theorem convSV_ok (K : GlOk P G) (H : HR N σ h w) {src dst : TypeId} {x r : SV} {v : Value} (hx : VR σ x v) (e : convSV G src dst x h = some r) :
    ∃ z, (convert src dst v).run P w = .ok z w ∧ VR σ r z := by
  unfold convSV at e
  split at e
  · rename_i k0 n
    split at e
    · rename_i sd k hs hd
      cases e
      simp only [VR] at hx
      subst hx
      refine ⟨_, ?_, rfl⟩
      unfold convert
      rw [Sem.run_bind, run_underlying' K hs, Result.andThen_ok, Sem.run_bind, run_underlying' K hd, Result.andThen_ok]
      rw [wrapF_eq]
      cases sd <;> rfl
    · cases e
  · rename_i s
    split at e
    · rename_i sd hs hd
      cases e
      simp only [VR] at hx
      obtain ⟨S, rfl, hS⟩ := hx
      refine ⟨.string S, ?_, S, rfl, hS⟩
      unfold convert
      rw [Sem.run_bind, run_underlying' K hs, Result.andThen_ok, Sem.run_bind, run_underlying' K hd, Result.andThen_ok]
      cases sd <;> rfl
    · cases e
  · rename_i b off
    split at e
    · rename_i t hs hd
      split at e
      · rename_i m y hsz hld
        cases e
        simp only [VR] at hx
        obtain ⟨cb, d, n, hb, hdo, rfl⟩ := hx
        refine ⟨.pointer (some ⟨cb, off - d, none⟩), ?_, cb, d, n, hb, hdo, rfl⟩
        obtain ⟨y', hc, _⟩ := H.load1 hb hld
        obtain ⟨C, te, fz, hh, hlt⟩ : ∃ C te fz, w.heap[cb]? = some (.cells C te fz) ∧ off - d < C.size := by
          simp only [World.cell?] at hc
          split at hc
          · rename_i C te fz hh
            refine ⟨C, te, fz, hh, ?_⟩
            simp only [Option.isSome_none, Bool.false_eq_true, if_false] at hc
            exact (Array.getElem?_eq_some_iff.1 hc).1
          · cases hc
        have hshape : w.shape? cb = some (te, C.size) := by simp [World.shape?, hh]
        unfold convert
        rw [Sem.run_bind, run_underlying' K hs, Result.andThen_ok, Sem.run_bind, run_underlying' K hd, Result.andThen_ok]
        show (Conv.unsafePointer src dst (.pointer (some ⟨cb, off - d, none⟩))).run P w = _
        unfold Conv.unsafePointer
        rw [Sem.run_bind, run_underlying' K hs, Result.andThen_ok, Sem.run_bind, run_underlying' K hd, Result.andThen_ok]
        have hseen : (Conv.seenAt ⟨cb, off - d, none⟩).run P w = .ok ⟨cb, off - d, none⟩ w := by
          unfold Conv.seenAt viewAt
          simp [hshape]
        have hcells : (cellsIn cb).run P w = .ok (some C.size) w := by
          unfold cellsIn
          simp [hshape]
        simp only [Sem.run_bind, hseen, Result.andThen_ok, hcells, run_sizeOf K hsz]
        simp only [Option.isNone_none, Bool.and_true, ge_iff_le]
        rw [if_neg]
        · rfl
        · simp; omega
      · cases e
    · cases e
  · rename_i b off len cap sz ex
    split at e
    · rename_i el hs hd
      split at e
      · rename_i he
        split at e
        · rename_i l hl
          split at e
          · rename_i s hbs
            cases e
            simp only [VR] at hx
            obtain ⟨cb, d, n, a, c, hb, hdo, rfl, hlc, hcc, hex, ha, hroom⟩ := hx
            obtain ⟨ns, rfl, rfl⟩ := bytesOf_ok _ _ hbs
            have hlen : ∃ C : Array Value, (loadCells a len).run P w = .ok C w ∧ VRL σ (ns.map (fun n => SV.int .u8 (.ofNat n))) C.toList := by
              rcases ha with rfl | h0
              · obtain ⟨C, q1, q2, _, _⟩ := H.load (P := P) hb hdo hl
                exact ⟨C, q1, q2⟩
              · have : len = 0 := by omega
                subst this
                obtain ⟨C, q1, q2, q3, q4⟩ := H.load (P := P) hb hdo hl
                refine ⟨#[], rfl, ?_⟩
                have : ns = [] := by
                  cases ns with
                  | nil => rfl
                  | cons => simp at q4
                subst this
                rfl
            obtain ⟨C, q1, q2⟩ := hlen
            have hC := vrl_bytes _ _ q2
            have hrun := run_bytesToString (P := P) w a len c (ns.map (fun (n : Nat) => (n : Int))) (by
              rw [q1]
              congr 1
              exact Array.ext' (by simpa using hC))
            refine ⟨_, ?_, _, rfl, (foldl_push ns .empty).trans (by simp)⟩
            rw [run_convert_bytes_string w src dst el (some a) len c (K.ut _ _ hs) (K.ut _ _ he) (K.ut _ _ hd)]
            exact hrun
          · cases e
        · cases e
      · cases e
    · cases e
  · split at e
    · rename_i el hs hd
      split at e
      · rename_i he
        cases e
        simp only [VR] at hx
        subst hx
        refine ⟨.string .empty, ?_, _, rfl, rfl⟩
        rw [run_convert_bytes_string w src dst el none 0 0 (K.ut _ _ hs) (K.ut _ _ he) (K.ut _ _ hd)]
        rfl
      · cases e
    · cases e
  · cases e

theorem findE_ok {s : Nat} : ∀ (es : List (SV × SV × Nat)) (E : List MapEntry) (k v : SV), All2 (EntR σ) es E → findE s es = some (k, v) →
    ∃ e', E.find? (·.born == s) = some e' ∧ VR σ k e'.key ∧ VR σ v e'.val
  | [], E, k, v, hE, e => by simp [findE] at e
  | (k', v', b) :: r, E, k, v, hE, e => by
    cases hE with
    | cons h1 h2 =>
      rename_i e' E'
      obtain ⟨a1, a2, a3⟩ := h1
      simp only at a1 a2 a3
      simp only [findE] at e
      split at e
      · rename_i hb
        cases e
        refine ⟨e', ?_, a1, a2⟩
        rw [List.find?_cons_of_pos]
        rw [a3]
        simpa using beq_true.1 hb
      · rename_i hb
        obtain ⟨e2, c1, c2, c3⟩ := findE_ok r E' k v h2 e
        refine ⟨e2, ?_, c2, c3⟩
        rw [List.find?_cons_of_neg]
        · exact c1
        · rw [a3]
          simpa using beq_false.1 hb
theorem entrySV_ok (H : HR N σ h w) {x r : SV} {v : Value} (hx : VR σ x v) (e : entrySV x h = some r) : ∃ z, (Instr.entry v).run P w = .ok z w ∧ VR σ r z := by
  unfold entrySV at e
  split at e
  · rename_i b
    split at e
    · rename_i m since seen stepped hb
      split at e
      · rename_i s es clock hlast hm
        split at e
        · rename_i k y hc hf
          cases e
          simp only [VR] at hx
          obtain ⟨cb, d, n, hs, hd, rfl⟩ := hx
          obtain ⟨m', q1, q2, q3⟩ := H.obj b _ cb d n hb hs
          obtain ⟨mb, md, mn, hms, rfl⟩ := q2
          obtain ⟨E, r1, r2⟩ := H.map hm hms
          obtain ⟨e', f1, f2, f3⟩ := findE_ok es E.toList k y r2 hf
          refine ⟨.tuple #[e'.key, e'.val], ?_, _, rfl, _, _, rfl, f2, _, _, rfl, f3, rfl⟩
          have g1 : (getObj cb).run P w = .ok (.mapIter (some mb) since seen.toArray stepped) w := by simp [getObj, Sem.run, q1]
          have hback : seen.toArray.back? = some s := by rw [List.back?_toArray, hlast]
          have hfind : E.find? (·.born == s) = some e' := by rw [← Array.find?_toList]; exact f1
          have hck : clock = stepped := beq_true.1 hc
          unfold Instr.entry
          rw [show (0 : Nat) - d = 0 from by omega]
          simp [g1, hback, run_getObj_map r1, hck, hfind]
        · cases e
      · cases e
    · cases e
  · cases e
theorem typeAssertSV_ok (K : GlOk P G) {x r : SV} {v : Value} {xt asserted : TypeId} {ok : Bool} (hx : VR σ x v) (e : typeAssertSV G x asserted ok = some r) :
    ∃ z, (Instr.typeAssert v xt asserted ok).run P w = .ok z w ∧ VR σ r z := by
  unfold typeAssertSV at e
  have holds : ∀ {y : SV} {u : Value}, VR σ y u → typeAssertSV.holds ok y = some r → ∃ z, (pure (if ok then .tuple #[u, .bool true] else u) : Sem Value).run P w = .ok z w ∧ VR σ r z := by
    intro y u hy he
    unfold typeAssertSV.holds at he
    cases ok with
    | true => cases he; exact ⟨_, rfl, _, rfl, _, _, rfl, hy, _, _, rfl, rfl, rfl⟩
    | false => cases he; exact ⟨_, rfl, hy⟩
  have fails : ∀ {st dyn : Option TypeId} {miss : String}, typeAssertSV.fails G asserted ok = some r →
      ∃ z, (if ok then do pure (.tuple #[← zeroValue asserted, .bool false]) else runtimePanic (.typeAssertion st dyn asserted miss) : Sem Value).run P w = .ok z w ∧ VR σ r z := by
    intro st dyn miss he
    unfold typeAssertSV.fails at he
    split at he
    · split at he
      · rename_i z0 hz
        cases he
        obtain ⟨z, g1, g2⟩ := run_zeroValue (P := P) (w := w) (σ := σ) K hz
        refine ⟨.tuple #[z, .bool false], ?_, _, rfl, _, _, rfl, g2, _, _, rfl, rfl, rfl⟩
        rw [if_pos rfl, Sem.run_bind, g1]
        rfl
      · cases he
    · cases he
  cases hu : G.ut asserted with
  | none => rw [hu] at e; cases e
  | some D =>
    rw [hu] at e
    unfold Instr.typeAssert
    have other : (∀ ms, D ≠ .interface ms) → (match (generalizing := false) x with
        | .nili => typeAssertSV.fails G asserted ok
        | .iface t v => (match (generalizing := false) Nat.beq t asserted with | true => typeAssertSV.holds ok v | false => typeAssertSV.fails G asserted ok)
        | _ => none) = some r → ∃ z, (Instr.typeAssert v xt asserted ok).run P w = .ok z w ∧ VR σ r z := by
      intro hni he
      unfold Instr.typeAssert
      simp only [Sem.run_bind, run_underlying' K hu, Result.andThen_ok]
      cases x with
      | nili =>
        simp only [VR] at hx
        subst hx
        cases D <;> first | (exact absurd rfl (hni _)) | exact fails he
      | iface t y =>
        simp only [VR] at hx
        obtain ⟨u, rfl, hy⟩ := hx
        simp only at he
        cases ht : Nat.beq t asserted with
        | true =>
          rw [ht] at he
          have := beq_true.1 ht
          subst this
          cases D <;> first | (exact absurd rfl (hni _)) | (simp only [if_true]; exact holds hy he)
        | false =>
          rw [ht] at he
          have := beq_false.1 ht
          cases D <;> first | (exact absurd rfl (hni _)) | (simp only [this, if_false]; exact fails he)
      | _ => cases he
    cases D with
    | interface want =>
      simp only at e
      simp only [Sem.run_bind, run_underlying' K hu, Result.andThen_ok]
      cases x with
      | nili =>
        simp only [VR] at hx
        subst hx
        exact fails e
      | iface t y =>
        simp only [VR] at hx
        obtain ⟨u, rfl, hy⟩ := hx
        simp only at e
        cases hi : G.inf t with
        | none => rw [hi] at e; cases e
        | some i =>
          rw [hi] at e
          simp only at e
          simp only [Sem.run_bind, run_typeInfo K hi, Result.andThen_ok]
          cases hm : Instr.missingMethod want i.methods with
          | none =>
            rw [hm] at e
            exact holds (y := .iface t y) (u := .iface t u) ⟨u, rfl, hy⟩ e
          | some ms =>
            rw [hm] at e
            exact fails e
      | _ => cases e
    | _ => exact other (by simp) e
end
end Go.Ex

/- Building values; every operation that hands back a value and does no more. Conditions: the tables that the executor asks are the program's. -/
namespace Go.Ex
open Go.RowKit (Below)
section
variable {N : Nat} {σ : Sg} {h : AH} {w : World} {P : Program} {G : Gl} {A : Array Value} {tm : T SV} {nt : Nat}

theorem VRL.of_get : ∀ (l : List SV) (L : List Value), L.length = l.length → (∀ (i : Nat) (x : SV), l[i]? = some x → ∃ y, L[i]? = some y ∧ VR σ x y) → VRL σ l L
  | [], [], _, _ => rfl
  | [], _ :: _, hl, _ => by simp at hl
  | x :: r, [], hl, _ => by simp at hl
  | x :: r, y :: s, hl, hg => by
    refine ⟨y, s, rfl, ?_, VRL.of_get r s (by simpa using hl) (fun i z hz => ?_)⟩
    · obtain ⟨y', a, b⟩ := hg 0 x (by simp)
      simp at a
      subst a
      exact b
    · obtain ⟨y', a, b⟩ := hg (i + 1) z (by simpa using hz)
      exact ⟨y', by simpa using a, b⟩
/-- a trie stands for a row -/
def TR (σ : Sg) (t : T SV) (n : Nat) (C : Array Value) : Prop := C.size = n ∧ ∀ j v, j < n → t.get j = some v → ∃ v', C[j]? = some v' ∧ VR σ v v'
theorem fillT_get : ∀ (l : List SV) (i : Nat) (t : T SV) (j : Nat), (fillT t i l).get j = if i ≤ j ∧ j < i + l.length then l[j - i]? else t.get j
  | [], i, t, j => by
    rw [if_neg (by simp only [List.length_nil]; omega)]
    rfl
  | x :: r, i, t, j => by
    show (fillT (t.set i x) (i + 1) r).get j = _
    rw [fillT_get r (i + 1) (t.set i x) j]
    simp only [List.length_cons]
    by_cases h2 : i = j
    · subst h2
      rw [if_neg (by omega), if_pos (by omega), T.get_set, if_pos rfl]
      simp
    · by_cases h3 : i + 1 ≤ j ∧ j < i + 1 + r.length
      · rw [if_pos h3, if_pos (by omega)]
        obtain ⟨m, rfl⟩ : ∃ m, j = i + 1 + m := ⟨j - (i + 1), by omega⟩
        rw [show i + 1 + m - i = m + 1 from by omega, show i + 1 + m - (i + 1) = m from by omega]
        simp
      · rw [if_neg h3, if_neg (by omega), T.get_set, if_neg (Ne.symm h2)]
theorem TR.fill {t : T SV} {n off : Nat} {C : Array Value} {l : List SV} {L : List Value} (hT : TR σ t n C) (hl : VRL σ l L) (hle : off + l.length ≤ n) : TR σ (fillT t off l) n (setL C off L) := by
  refine ⟨by rw [setL_size]; exact hT.1, fun j v hj hv => ?_⟩
  rw [fillT_get] at hv
  rw [setL_get _ _ _ _ (by rw [hl.length, hT.1]; exact hle), hl.length]
  by_cases h1 : off ≤ j ∧ j < off + l.length
  · rw [if_pos h1] at hv ⊢
    exact hl.get hv
  · rw [if_neg h1] at hv ⊢
    exact hT.2 j v hj hv
theorem TR.of_cells {l : List SV} {C : Array Value} (hl : VRL σ l C.toList) : TR σ (fillT .e 0 l) l.length C := by
  refine ⟨by have := hl.length; simpa using this, fun j v hj hv => ?_⟩
  rw [fillT_get, if_pos (by omega)] at hv
  obtain ⟨v', a, b⟩ := hl.get hv
  exact ⟨v', by rw [← Array.getElem?_toList]; simpa using a, b⟩
theorem TR.cells {t : T SV} {n : Nat} {C : Array Value} {l : List SV} (hT : TR σ t n C) (e : cellsOf t n 0 = some l) : VRL σ l C.toList := by
  obtain ⟨h1, h2⟩ := cellsOf_spec _ _ _ _ e
  refine VRL.of_get l C.toList (by simp [hT.1, h1]) (fun i x hx => ?_)
  have hi : i < n := by rw [← h1]; exact (List.getElem?_eq_some_iff.1 hx).1
  have := h2 i x hx
  rw [Nat.zero_add] at this
  obtain ⟨v', a, b⟩ := hT.2 i x hi this
  exact ⟨v', by rw [Array.getElem?_toList]; exact a, b⟩
theorem foldl_setL (off : Nat) : ∀ (l : List Value) (k : Nat) (C : Array Value), (l.zipIdx k).foldl (fun cs (x : Value × Nat) => cs.setIfInBounds (off + x.2) x.1) C = setL C (off + k) l
  | [], k, C => rfl
  | v :: r, k, C => by
    simp only [List.zipIdx_cons, List.foldl_cons]
    rw [foldl_setL off r (k + 1)]
    rfl
def PartR (σ : Sg) (a : Nat × SV) (b : Nat × Value) : Prop := a.1 = b.1 ∧ VR σ a.2 b.2
theorem fill_ok {place place' : Nat → Option (Nat × Nat)} {n : Nat} (hp : ∀ i x, place i = some x → place' i = some x) :
    ∀ (l : List (Nat × SV)) (L : List (Nat × Value)) (t t' : T SV) (C : Array Value), All2 (PartR σ) l L → TR σ t n C → placeParts place n l t = some t' →
      ∃ C', Instr.fill place' C L = some C' ∧ TR σ t' n C'
  | [], L, t, t', C, hl, hT, e => by
    cases hl
    simp only [placeParts] at e
    cases e
    exact ⟨C, rfl, hT⟩
  | (i, x) :: r, L, t, t', C, hl, hT, e => by
    cases hl with
    | cons h1 h2 =>
      rename_i y s
      obtain ⟨i', v⟩ := y
      obtain ⟨rfl, hv⟩ := h1
      simp only [placeParts] at e
      split at e
      · cases e
      · rename_i off size hpl
        split at e
        · rename_i q1 q2
          have q1' := beq_true.1 q1
          have q2' := ble_true.1 q2
          have hc := hv.cells
          have hlen : v.cells.size = size := by have := hc.length; simp at this; omega
          obtain ⟨C', a, b⟩ := fill_ok hp r s _ t' (setL C off v.cells.toList) h2 (hT.fill hc (by simp only [Nat.add_eq] at q2'; simp only; omega)) e
          refine ⟨C', ?_, b⟩
          unfold Instr.fill
          simp only
          rw [hp _ _ hpl]
          simp only
          rw [if_neg (by
            simp only [Nat.add_eq] at q2'
            have := hT.1
            simp [hlen]
            omega)]
          rw [← a]
          congr 1
          have := foldl_setL off v.cells.toList 0 C
          rw [Nat.add_zero] at this
          rw [← this, ← Array.foldl_toList, Array.toList_zipIdx]
        · cases e
theorem evalP_ok (hT : TmR σ tm nt A) (hg : Glob σ) : ∀ {l : List (Nat × Operand)} {vs : List (Nat × SV)}, evalP tm l = some vs → All2 (PartR σ) vs (l.map fun (i, x) => (i, rho A x))
  | [], vs, e => by simp only [evalP] at e; cases e; exact .nil
  | (i, x) :: r, vs, e => by
    simp only [evalP] at e
    split at e
    · rename_i v l h1 h2
      cases e
      exact .cons ⟨rfl, evalQ_ok hT hg h1⟩ (evalP_ok hT hg h2)
    · cases e
theorem inf_of_size {t : TypeId} {n : Nat} (e : sizeT G t = some n) : ∃ i, G.inf t = some i ∧ i.size = n := by
  unfold sizeT at e
  split at e
  · rename_i i hi; cases e; exact ⟨i, hi, rfl⟩
  · cases e
theorem inf_of_zero {t : TypeId} {z : SV} (e : zeroT G t = some z) : ∃ i v, G.inf t = some i ∧ i.zero = some v ∧ VR σ z v := by
  unfold zeroT at e
  split at e
  · rename_i i hi
    split at e
    · rename_i v hv
      exact ⟨i, v, hi, hv, ofValue_ok σ 100 v z e⟩
    · cases e
  · cases e
theorem places_ok (K : GlOk P G) : ∀ (fs : List Field), sizesOk G fs = true → ∃ l : List (Nat × Nat), fs.mapM (fun f => (P.info? f.type).map fun i => (f.offset, i.size)) = some l ∧ ∀ i x, fieldPlaces G fs i = some x → l[i]? = some x
  | [], _ => ⟨[], rfl, fun i x e => by simp [fieldPlaces] at e⟩
  | f :: r, e => by
    simp only [sizesOk] at e
    split at e
    · rename_i n hn
      obtain ⟨i, hi, rfl⟩ := inf_of_size hn
      obtain ⟨l, a, b⟩ := places_ok K r e
      refine ⟨(f.offset, i.size) :: l, ?_, fun j x hx => ?_⟩
      · simp [List.mapM_cons, K.inf _ _ hi, a]
      · cases j with
        | zero =>
          simp only [fieldPlaces] at hx
          rw [hn] at hx
          simpa using hx
        | succ j =>
          simp only [fieldPlaces] at hx
          simpa using b j x hx
    · cases e
theorem buildSV_ok (K : GlOk P G) {t : TypeId} {l : List (Nat × SV)} {L : Array (Nat × Value)} {r : SV} (hl : All2 (PartR σ) l L.toList) (e : buildSV G t l = some r) :
    ∃ z, (Instr.build t L).run P w = .ok z w ∧ VR σ r z := by
  unfold buildSV at e
  split at e
  · cases e
  · rename_i z hz
    obtain ⟨it, zv, hi, hzv, hzr⟩ := inf_of_zero (σ := σ) hz
    have hc := hzr.cells
    simp only at e
    split at e
    · rename_i fs hu
      split at e
      · rename_i d hso hd
        split at e
        · rename_i cl hcl
          cases e
          obtain ⟨pl, p1, p2⟩ := places_ok K fs.toList hso
          obtain ⟨C', f1, f2⟩ := fill_ok (place' := fun i => pl.toArray[i]?) (fun i x hx => by simpa using p2 i x hx) l L.toList _ d _ hl (TR.of_cells hc) hd
          refine ⟨.agg C', run_build w t L C' ?_, C', rfl, f2.cells hcl⟩
          unfold Program.built
          rw [K.inf _ _ hi, K.ut _ _ hu]
          simp only [hzv, p1]
          exact f1
        · cases e
      · cases e
    · rename_i n el hu
      split at e
      · rename_i s hs
        obtain ⟨ie, hie, rfl⟩ := inf_of_size hs
        split at e
        · rename_i d hd
          split at e
          · rename_i cl hcl
            cases e
            obtain ⟨C', f1, f2⟩ := fill_ok (place' := fun i => some (i * ie.size, ie.size)) (fun i x hx => hx) l L.toList _ d _ hl (TR.of_cells hc) hd
            refine ⟨.agg C', run_build w t L C' ?_, C', rfl, f2.cells hcl⟩
            unfold Program.built
            rw [K.inf _ _ hi, K.ut _ _ hu]
            simp only [hzv, K.inf _ _ hie]
            exact f1
          · cases e
        · cases e
      · cases e
    · cases e
theorem entriesOf_len (H : HR N σ h w) {x : SV} {v : Value} {es : List (SV × SV × Nat)} (hx : VR σ x v) (e : entriesOf x h = some es) :
    (v = .map none ∧ es = []) ∨ ∃ cb E c, v = .map (some cb) ∧ w.heap[cb]? = some (.map E c) ∧ E.size = es.length := by
  unfold entriesOf at e
  split at e
  · cases e; simp only [VR] at hx; exact .inl ⟨hx, rfl⟩
  · rename_i b
    split at e
    · rename_i es' clock hb
      cases e
      simp only [VR] at hx
      obtain ⟨cb, d, n, hs, rfl⟩ := hx
      obtain ⟨E, q1, q2⟩ := H.map hb hs
      exact .inr ⟨cb, E, _, rfl, q1, by have := q2.length; simpa using this⟩
    · cases e
  · cases e
theorem lenSV_ok (K : GlOk P G) (H : HR N σ h w) {t rt : TypeId} {ts : Array TypeId} {x r : SV} {vs : Array Value} {v : Value} (ht : ts[0]? = some t) (hv : vs[0]? = some v) (hx : VR σ x v) (e : lenSV G t x h = some r) :
    ∃ z, (Builtin.len_ ts rt vs).run P w = .ok z w ∧ VR σ r z := by
  unfold lenSV at e
  unfold Builtin.len_
  rw [ht, hv]
  simp only
  cases hu : G.ut t with
  | none => rw [hu] at e; cases e
  | some D =>
    rw [hu] at e
    rw [Sem.run_bind, run_underlying' K hu, Result.andThen_ok]
    cases D with
    | string =>
      cases x with
      | str s =>
        cases e
        simp only [VR] at hx
        obtain ⟨S, rfl, hS⟩ := hx
        exact ⟨_, rfl, by simp only [VR, i64, goInt]; rw [← hS]; simp⟩
      | _ => cases e
    | array n el => cases e; exact ⟨_, rfl, rfl⟩
    | pointer a =>
      simp only at e
      cases ha : G.ut a with
      | none => rw [ha] at e; cases e
      | some D' =>
        rw [ha] at e
        cases D' with
        | array n el =>
          cases e
          refine ⟨_, ?_, rfl⟩
          simp only
          rw [Sem.run_bind, run_underlying' K ha, Result.andThen_ok]
          rfl
        | _ => cases e
    | slice el =>
      cases x with
      | slice b off len cap sz ex =>
        cases e
        simp only [VR] at hx
        obtain ⟨cb, d, n, a, c, _, _, rfl, _⟩ := hx
        exact ⟨_, rfl, rfl⟩
      | nils => cases e; simp only [VR] at hx; subst hx; exact ⟨_, rfl, rfl⟩
      | _ => cases e
    | map kt el =>
      simp only at e
      cases hes : entriesOf x h with
      | none => rw [hes] at e; cases e
      | some es =>
        rw [hes] at e
        cases e
        rcases entriesOf_len H hx hes with ⟨rfl, rfl⟩ | ⟨cb, E, c, rfl, q1, q2⟩
        · exact ⟨_, rfl, rfl⟩
        · refine ⟨_, ?_, rfl⟩
          simp only
          rw [Sem.run_bind, run_getObj_map q1, Result.andThen_ok]
          simp only [Sem.run_pure, goInt, q2]
          rfl
    | _ => cases e
theorem capSV_ok (K : GlOk P G) {t rt : TypeId} {ts : Array TypeId} {x r : SV} {vs : Array Value} {v : Value} (ht : ts[0]? = some t) (hv : vs[0]? = some v) (hx : VR σ x v) (e : capSV G t x = some r) :
    ∃ z, (Builtin.cap_ ts rt vs).run P w = .ok z w ∧ VR σ r z := by
  unfold capSV at e
  unfold Builtin.cap_
  rw [ht, hv]
  simp only
  cases hu : G.ut t with
  | none => rw [hu] at e; cases e
  | some D =>
    rw [hu] at e
    rw [Sem.run_bind, run_underlying' K hu, Result.andThen_ok]
    cases D with
    | slice el =>
      cases x with
      | slice b off len cap sz ex =>
        cases ex with
        | true =>
          cases e
          simp only [VR] at hx
          obtain ⟨cb, d, n, a, c, _, _, rfl, _, _, hc, _⟩ := hx
          have hc' := hc (by simp)
          rw [hc']
          exact ⟨_, rfl, rfl⟩
        | false => cases e
      | nils => cases e; simp only [VR] at hx; subst hx; exact ⟨_, rfl, rfl⟩
      | _ => cases e
    | _ => cases e
end
end Go.Ex

/- Every operation that hands back a value and does no more. Conditions: the tables that the executor asks are the program's. -/
namespace Go.Ex
open Go.RowKit (Below)
section
variable {N : Nat} {σ : Sg} {h : AH} {w : World} {P : Program} {G : Gl} {A : Array Value} {tm : T SV} {nt : Nat}

theorem optO_ok (hT : TmR σ tm nt A) (hg : Glob σ) {x : Option Operand} {y : Option SV} (e : optO tm x = some y) : OptR σ y (x.map (rho A)) := by
  cases x with
  | none => simp only [optO] at e; cases e; rfl
  | some x =>
    simp only [optO] at e
    split at e
    · rename_i v hv
      cases e
      exact ⟨_, rfl, evalQ_ok hT hg hv⟩
    · cases e
theorem args_ok (hT : TmR σ tm nt A) (hg : Glob σ) {c : Array Operand} {vs : List SV} (e : evalL tm c.toList = some vs) : VRL σ vs (c.map (rho A)).toList := by
  have := evalL_ok hT hg e
  simpa using this
theorem vrl_one {x : SV} {L : Array Value} (e : VRL σ [x] L.toList) : ∃ v, L = #[v] ∧ VR σ x v := by
  simp only [VRL] at e
  obtain ⟨y, s, h1, h2, rfl⟩ := e
  exact ⟨y, by rw [← Array.toArray_toList (xs := L), h1], h2⟩
theorem nCallB_ok (K : GlOk P G) (H : HR N σ h w) {b : Builtin} {ts : Array TypeId} {rt : TypeId} {cs : Array Bool} {args : List SV} {L : Array Value} {x : SV} (hL : VRL σ args L.toList) (e : nCallB G b ts args h = some x) :
    ∃ y, (builtin b ts rt cs L).run P w = .ok (.value y) w ∧ VR σ x y := by
  unfold nCallB at e
  split at e
  · rename_i t y ht
    obtain ⟨v, rfl, hv⟩ := vrl_one hL
    obtain ⟨z, z1, z2⟩ := lenSV_ok (rt := rt) (vs := #[v]) K H ht rfl hv e
    exact ⟨z, run_v z1, z2⟩
  · rename_i t y ht
    obtain ⟨v, rfl, hv⟩ := vrl_one hL
    obtain ⟨z, z1, z2⟩ := capSV_ok (w := w) (rt := rt) (vs := #[v]) K ht rfl hv e
    exact ⟨z, run_v z1, z2⟩
  · rename_i y r
    simp only [VRL] at hL
    obtain ⟨v, s, h1, h2, h3⟩ := hL
    obtain ⟨z, z1, z2⟩ := foldO_ok (P := P) (w := w) (g := Builtin.max2) (fun _ _ _ _ _ a b c => max2_ok a b c) r y x v s h2 h3 e
    refine ⟨z, run_v (s := Builtin.max_ ts rt L) ?_, z2⟩
    unfold Builtin.max_
    rw [h1]
    exact z1
  · rename_i y r
    simp only [VRL] at hL
    obtain ⟨v, s, h1, h2, h3⟩ := hL
    obtain ⟨z, z1, z2⟩ := foldO_ok (P := P) (w := w) (g := Builtin.min2) (fun _ _ _ _ _ a b c => min2_ok a b c) r y x v s h2 h3 e
    refine ⟨z, run_v (s := Builtin.min_ ts rt L) ?_, z2⟩
    unfold Builtin.min_
    rw [h1]
    exact z1
  · cases e

theorem FnR.notMethod {f g : Fn} (k : FnR σ f g) (hm : ∀ n, f ≠ .method n) : ∀ n, g ≠ .method n := by
  intro n
  cases f <;> simp only [FnR] at k <;> first
    | (subst k; exact hm n)
    | (obtain ⟨_, _, _, _, rfl⟩ := k; simp)
set_option maxHeartbeats 1000000 in
theorem opN_ok (K : GlOk P G) (H : HR N σ h w) (hT : TmR σ tm nt A) (hg : Glob σ) {o : Oper} {x : SV} (e : opN G o.op tm h = some x) :
    ∃ y, (execOp (rho A) o).run P w = .ok (.value y) w ∧ VR σ x y := by
  unfold execOp
  cases ho : o.op <;> rw [ho] at e <;> simp only [opN] at e <;> simp only
  case move a => exact ⟨_, rfl, evalQ_ok hT hg e⟩
  case assign a => exact ⟨_, rfl, evalQ_ok hT hg e⟩
  case pick c a b =>
    unfold nPick at e
    split at e
    · rename_i hc
      have := evalQ_ok hT hg hc
      simp only [VR] at this
      rw [this]
      exact ⟨_, rfl, evalQ_ok hT hg e⟩
    · rename_i hc
      have := evalQ_ok hT hg hc
      simp only [VR] at this
      rw [this]
      exact ⟨_, rfl, evalQ_ok hT hg e⟩
    · cases e
  case build t ps =>
    unfold nBuild at e
    split at e
    · rename_i l hl
      have h1 := evalP_ok hT hg hl
      obtain ⟨z, z1, z2⟩ := buildSV_ok (P := P) (w := w) (σ := σ) (L := ps.map fun x => (x.1, rho A x.2)) K (by simpa using h1) e
      exact ⟨z, run_v z1, z2⟩
    · cases e
  case load t a =>
    obtain ⟨z, z1, z2⟩ := nLoad_ok K H hT hg e
    exact ⟨z, run_v z1, z2⟩
  case nilCheck a =>
    unfold nNil at e
    split at e
    · rename_i v hv
      have h1 := evalQ_ok hT hg hv
      unfold nilOk at e
      split at e
      all_goals (first | (cases e; done) | skip)
      rename_i n1 n2 n3 n4
      cases e
      refine ⟨rho A a, ?_, h1⟩
      generalize rho A a = u at h1
      cases x <;> simp only [VR] at h1 <;> first
        | (exact absurd rfl n1)
        | (exact absurd rfl n2)
        | (exact absurd rfl n3)
        | (subst h1; rfl)
        | (obtain ⟨_, rfl, _⟩ := h1; rfl)
        | (obtain ⟨_, _, _, _, _, rfl⟩ := h1; rfl)
        | (obtain ⟨_, _, _, _, rfl⟩ := h1; rfl)
        | (obtain ⟨_, _, _, _, _, _, _, rfl, _⟩ := h1; rfl)
        | skip
      obtain ⟨fn', B, C, rfl, hf, _⟩ := h1
      have hm := hf.notMethod (fun n hn => by subst hn; exact n4 _ _ _ rfl)
      cases fn' <;> first | rfl | exact absurd rfl (hm _)
    · cases e
  case binOp op t a b yt =>
    unfold nBin at e
    split at e
    · rename_i u hu
      split at e
      · rename_i v hv
        obtain ⟨z, z1, z2⟩ := binSV_ok (P := P) (w := w) K e (evalQ_ok hT hg hu) (evalQ_ok hT hg hv)
        exact ⟨z, run_v z1, z2⟩
      · cases e
    · cases e
  case unOp op t a =>
    unfold nUn at e
    split at e
    · rename_i u hu
      obtain ⟨z, z1, z2⟩ := unSV_ok (P := P) (w := w) e (evalQ_ok hT hg hu)
      exact ⟨z, run_v z1, z2⟩
    · cases e
  case convert s d a =>
    unfold nConv at e
    split at e
    · rename_i u hu
      obtain ⟨z, z1, z2⟩ := convSV_ok K H (evalQ_ok hT hg hu) e
      exact ⟨z, run_v z1, z2⟩
    · cases e
  case makeInterface t a =>
    unfold nMkI at e
    split at e
    · rename_i u hu
      unfold mkIface at e
      have h1 := evalQ_ok hT hg hu
      cases hd : G.ut t with
      | none => rw [hd] at e; cases e
      | some D =>
        rw [hd] at e
        cases D <;> simp only at e <;> (first | (cases e; done) | skip)
        all_goals
          cases e
          refine ⟨.iface t (rho A a), run_v ?_, _, rfl, h1⟩
          unfold Instr.makeInterface
          rw [Sem.run_bind, run_underlying' K hd]
          rfl
    · cases e
  case makeFunc fn first cap =>
    unfold nMkF at e
    split at e
    · cases e
    · rename_i ny
      unfold mkFn at e
      split at e
      · rename_i a ha
        split at e
        · rename_i b hb
          cases e
          refine ⟨_, rfl, fn, _, _, rfl, ?_, args_ok hT hg ha, args_ok hT hg hb⟩
          cases fn <;> first | rfl | (exact absurd rfl (ny _))
        · cases e
      · cases e
  case slice t a lo hi mx =>
    unfold nSlice at e
    split at e
    · cases e
    · rename_i u hu
      split at e
      · cases e
      · rename_i lo' hlo
        split at e
        · cases e
        · rename_i hi' hhi
          split at e
          · cases e
          · rename_i mx' hmx
            split at e
            · rename_i hok
              obtain ⟨z, z1, z2⟩ := sliceSV_ok K H (evalQ_ok hT hg hu) (optO_ok hT hg hlo) (optO_ok hT hg hhi) (optO_ok hT hg hmx) hok e
              exact ⟨z, run_v z1, z2⟩
            · cases e
  case fieldAddr s a f =>
    unfold nFAddr at e
    split at e
    · rename_i u hu
      obtain ⟨z, z1, z2⟩ := fieldAddrSV_ok (P := P) (w := w) K (evalQ_ok hT hg hu) e
      exact ⟨z, run_v z1, z2⟩
    · cases e
  case field t a f =>
    unfold nField at e
    split at e
    · rename_i cs hu
      have h1 := evalQ_ok hT hg hu
      simp only [VR] at h1
      obtain ⟨C, hC, h2⟩ := h1
      obtain ⟨z, z1, z2⟩ := fieldSV_ok (P := P) (w := w) K h2 e
      rw [hC]
      exact ⟨z, run_v z1, z2⟩
    · cases e
  case indexAddr t a b =>
    unfold nIAddr at e
    split at e
    · rename_i u hu
      split at e
      · rename_i v hv
        obtain ⟨z, z1, z2⟩ := indexAddrSV_ok (P := P) (w := w) K (evalQ_ok hT hg hu) (evalQ_ok hT hg hv) e
        exact ⟨z, run_v z1, z2⟩
      · cases e
    · cases e
  case index t a b =>
    unfold nIndex at e
    split at e
    · rename_i u hu
      split at e
      · rename_i v hv
        obtain ⟨z, z1, z2⟩ := indexSV_ok (P := P) (w := w) K (evalQ_ok hT hg hu) (evalQ_ok hT hg hv) e
        exact ⟨z, run_v z1, z2⟩
      · cases e
    · cases e
  case lookup t a b ok =>
    unfold nLook at e
    split at e
    · rename_i u hu
      split at e
      · rename_i v hv
        obtain ⟨z, z1, z2⟩ := lookupSV_ok K H (evalQ_ok hT hg hu) (evalQ_ok hT hg hv) e
        exact ⟨z, run_v z1, z2⟩
      · cases e
    · cases e
  case entry a =>
    unfold nEntry at e
    split at e
    · rename_i u hu
      obtain ⟨z, z1, z2⟩ := entrySV_ok H (evalQ_ok hT hg hu) e
      exact ⟨z, run_v z1, z2⟩
    · cases e
  case typeAssert a xt asserted ok =>
    unfold nTA at e
    split at e
    · rename_i u hu
      obtain ⟨z, z1, z2⟩ := typeAssertSV_ok (P := P) (w := w) (xt := xt) K (evalQ_ok hT hg hu) e
      exact ⟨z, run_v z1, z2⟩
    · cases e
  case extract a ix =>
    unfold nExt at e
    split at e
    · rename_i l hu
      have h1 := evalQ_ok hT hg hu
      simp only [VR] at h1
      obtain ⟨C, hC, h2⟩ := h1
      obtain ⟨z, z1, z2⟩ := h2.get e
      rw [hC]
      refine ⟨z, run_v ?_, z2⟩
      unfold Instr.extract
      simp only
      rw [show C[ix]? = some z from by rw [← Array.getElem?_toList]; exact z1]
      rfl
    · cases e
  case call c =>
    unfold nCall at e
    split at e
    · rename_i b hb
      split at e
      · rename_i args hargs
        obtain ⟨y, y1, y2⟩ := nCallB_ok (w := w) (rt := o.type) (cs := c.args.map fun | .const _ => true | _ => false) K H (args_ok hT hg hargs) e
        refine ⟨y, ?_, y2⟩
        unfold resolve
        rw [hb]
        simp only [Sem.run_bind, Sem.run_pure, Result.andThen_ok]
        exact y1
      · cases e
    · cases e
  all_goals (simp only [nNone] at e; cases e)
end
end Go.Ex
