/- The executor is right at every depth; calls. Conditions: the tables are the program's, and mixed orders are followed. -/
import Derived.Test.YtcjhpnnfbhcegaaGreatDoorEx7
import Derived.RangeFuncIn
/- Control: leaving, and the statements' own steps. Conditions: the tables are the program's; deeper runs are right. -/
namespace Go.Ex
open Go.RowKit (Below)
section
variable {N : Nat} {P : Program} {G : Gl} {run : RunT} {C : FC} {k : List AItem} {kk : List Item} {tm tmP : T SV} {ds : List ADef} {h : AH} {cp : CP} {l : List Fin1} {σ : Sg} {w : World} {b : Frame} {a : Go.Act} {cs : List Frame}

theorem atR_eta {fr : Frame} (h : fr.mode = .run) : fr.atR ⟨fr.tmps, fr.defers⟩ fr.todo = fr := by
  cases fr
  simp only at h
  subst h
  rfl
/-- the frame goes on -/
theorem cont_ok (S : Sound P G run) (e : run C k tm ds .run h cp = .ok l) (hg : Glob σ) (H : HR N σ h w) (hT : TmR σ tm C.nt a.tmps) (M : Mid P σ C tmP ds cp b a cs) (hk : All2 (ItR σ) k kk) :
    ∃ r ∈ l, FinR P N h.next σ C (lone (b.atR a kk) cs w) cs w r :=
  S _ _ _ _ _ _ _ _ e N σ w (b.atR a kk) cs hg H ⟨M.fn, M.kind, M.round, hT, M.defs, rfl, fun _ => hk, M.kinds, M.fnok⟩ M.cal
/-- the frame is on its way out -/
theorem out_ok (S : Sound P G run) {m : AMode} {mode : FrameMode} (hm : m ≠ .run) (hM : ModR σ m mode) (e : run C [] tm ds m h cp = .ok l) (hg : Glob σ) (H : HR N σ h w) (hT : TmR σ tm C.nt a.tmps) (M : Mid P σ C tmP ds cp b a cs) :
    ∃ r ∈ l, FinR P N h.next σ C (lone { b.atR a kk with mode := mode } cs w) cs w r :=
  S _ _ _ _ _ _ _ _ e N σ w { b.atR a kk with mode := mode } cs hg H ⟨M.fn, M.kind, M.round, hT, M.defs, hM, fun h => absurd h hm, M.kinds, M.fnok⟩ M.cal

theorem loop_base (H : HR N σ h w) {b0 cb d n : Nat} {o : AObj} (ho : h.t.get b0 = some o) (hno : ∀ k, o ≠ .cells k) (hs : σ b0 = some (cb, d, n)) : N ≤ cb := by
  refine H.low _ _ _ _ hs ?_
  rcases Nat.lt_or_ge b0 base with h1 | h1
  · obtain ⟨k, hk⟩ := H.nc _ _ ho h1
    exact absurd hk (hno k)
  · exact h1
/-- the record of a loop changes -/
theorem putLoop (H : HR N σ h w) {b0 cb d n : Nat} {lp : ALoop} {L : Loop} (ho : h.t.get b0 = some (.loop lp)) (hs : σ b0 = some (cb, d, n)) (hw : w.heap[cb]? = some (.loop L)) (hL : LoopR σ lp L) (st : LoopState) (pe : Option Code) :
    HR N σ (h.put b0 (.loop ⟨st, pe, lp.fn, lp.tmps, lp.nt, lp.params, lp.assign, lp.body, lp.defers⟩)) (w.putObj cb (.loop { L with state := st, pending := pe })) ∧ Below N w (w.putObj cb (.loop { L with state := st, pending := pe })) := by
  have hlt : cb < w.heap.size := (Array.getElem?_eq_some_iff.1 hw).1
  refine ⟨H.put ho hs (fun k => by simp) (fun c hc => World.putObj_heap_other hc) (by simp) ?_, below_putObj _ (loop_base H ho (fun k => by simp) hs)⟩
  obtain ⟨q1, q2, q3, q4, q5, q6, q7, q8⟩ := hL
  exact ⟨_, World.putObj_heap_same hlt, rfl, rfl, q3, q4, q5, q6, q7, q8⟩

theorem leave_ok (S : Sound P G run) {jump : Option Code} (e : leaveA run C tm ds h cp jump = .ok l) (hg : Glob σ) (H : HR N σ h w) (hT : TmR σ tm C.nt a.tmps) (M : Mid P σ C tmP ds cp b a cs)
    (h0 : b.roundOf = none → (jump = none ∨ jump = some .ret) → step P (lone (b.atR a kk) cs w) = .next (lone { b.atR a kk with mode := .returning } cs w))
    (h1 : ∀ cl v w' c cs', b.roundOf = some cl → b.kind = .normal → (Instr.endRound cl jump).run P w = .ok v w' → cs = c :: cs' → step P (lone (b.atR a kk) cs w) = .next (lone (c.finish v) cs' w')) :
    ∃ r ∈ l, FinR P N h.next σ C (lone (b.atR a kk) cs w) cs w r := by
  unfold leaveA at e
  cases hround : C.round with
  | none =>
    rw [hround] at e
    have hb := M.roundNone hround
    have key : (jump = none ∨ jump = some .ret) → run C [] tm ds .returning h cp = .ok l → ∃ r ∈ l, FinR P N h.next σ C (lone (b.atR a kk) cs w) cs w r := by
      intro hj e
      obtain ⟨r, hr, hF⟩ := out_ok (m := .returning) (mode := .returning) (kk := kk) S (by simp) rfl e hg H hT M
      exact ⟨r, hr, hF.of_steps (.one (h0 hb hj)) (Sg.up_refl _ _) (Nat.le_refl _) (Below.refl _ _)⟩
    simp only at e
    unfold leaveR at e
    split at e
    · exact key (.inl rfl) e
    · exact key (.inr rfl) e
    · cases e
  | some l0 =>
    rw [hround] at e
    simp only at e
    split at e
    · rename_i lp hlp
      unfold leaveL at e
      cases e
      have hr := M.round
      rw [hround] at hr
      obtain ⟨cl, d, n, hs, hro⟩ := hr
      have hkind : C.kind = .normal := by
        rcases M.kinds with hk | ⟨_, hk⟩
        · exact hk
        · rw [hround] at hk; cases hk
      obtain ⟨L, hw, hL⟩ := H.obj _ _ _ _ _ hlp hs
      have hcal := M.cal
      obtain ⟨c1, c2⟩ := hcal
      rw [hkind] at c1
      have hne := c2 (by rw [hround]; simp)
      cases hcs : cs with
      | nil => exact absurd hcs hne
      | cons c cs' =>
        have hst := h1 cl _ _ c cs' hro (M.kind.trans hkind) (run_endRound jump hw) hcs
        rw [hcs] at hst
        have hst2 : (match jump with | none => LoopState.ready | some _ => .done) = (if jump.isNone = true then LoopState.ready else .done) := by cases jump <;> rfl
        obtain ⟨p1, p2⟩ := putLoop H hlp hs hw hL (if jump.isNone = true then LoopState.ready else .done) jump
        refine ⟨_, List.mem_cons_self, σ, _, Sg.up_refl _ _, ?_, p2, Nat.le_refl _, ?_⟩
        · cases jump <;> exact p1
        · unfold OutR
          rw [hround]
          exact ⟨c, cs', _, rfl, .one hst, by simp only [VR], c1⟩
    · cases e

theorem exitTo_ok {id : Nat} : ∀ {k : List AItem} {kk : List Item}, All2 (ItR σ) k kk →
    (∀ k', exitToA id k = some k' → ∃ kk', exitTo id kk = some kk' ∧ All2 (ItR σ) k' kk') ∧ (exitToA id k = none → exitTo id kk = none)
  | [], _, .nil => ⟨fun k' h => (by cases h), fun _ => rfl⟩
  | x :: k, y :: kk, .cons h hr => by
    have ih := exitTo_ok (id := id) hr
    cases x <;> simp only [ItR] at h
    case inBlock id' =>
      subst h
      simp only [exitToA, exitTo]
      by_cases hid : id' = id
      · subst hid
        rw [beq_true.2 rfl]
        simp only [beq_self_eq_true, if_true]
        exact ⟨fun k' h => (by cases h; exact ⟨_, rfl, hr⟩), fun h => (by cases h)⟩
      · rw [beq_false.2 hid]
        have : (id' == id) = false := by simp [hid]
        simp only [this]
        exact ih
    case endRangeFunc l' =>
      obtain ⟨cl, d, n, _, rfl⟩ := h
      simpa only [exitToA, exitTo] using ih
    all_goals first
      | exact h.elim
      | (subst h; simpa only [exitToA, exitTo] using ih)
end
end Go.Ex

/- Control: a range over a function. Conditions: the tables are the program's; deeper runs are right. -/
namespace Go.Ex
open Go.RowKit (Below)
section
variable {N : Nat} {P : Program} {G : Gl} {run : RunT} {C : FC} {k : List AItem} {kk : List Item} {tm tmP : T SV} {ds : List ADef} {h : AH} {cp : CP} {l : List Fin1} {σ : Sg} {w : World} {b : Frame} {a : Go.Act} {cs : List Frame}

theorem alloc_size (w : World) (o : Obj) : (w.alloc o).heap.size = w.heap.size + 1 := by simp
theorem run_enterLoop_inner {cl : Nat} {L : Loop} (fn : FuncId) (tmps : Array Value) (ps : Array Tmp) (assign body : Code) (hw : w.heap[cl]? = some (.loop L)) :
    (Instr.enterLoop fn tmps ps assign body (some cl)).run P w =
      .ok (w.heap.size, []) (w.alloc (.loop { state := .ready, pending := none, fn, tmps, params := ps, assign, body, defers := L.defers })) := by
  unfold Instr.enterLoop
  simp only [Sem.run_bind, run_getLoop hw, Result.andThen, Sem.run_pure, run_newObj_alloc]

/-- the call of the function, once the record lies -/
theorem rf_call (K : GlOk P G) (S : Sound P G run) (Cl : CallOk P G run) {ps : Array Tmp} {assign body : Code} {f : Operand} {fn : Fn} {first cap : List SV} {lp : ALoop} {mark : List Deferred} {w1 : World} {τ : Sg} {h1 : AH} {n1 : Nat}
    (e : rfCall G run k C tm ds cp h1.next (invokeF G fn cap (first ++ [.func (.yield h1.next) [] []]) (h1.new (.loop lp))) = .ok l)
    (hu : Sg.up h.next σ τ) (hn : h.next ≤ h1.next) (hb : Below N w w1)
    (hτ : τ h1.next = some (n1, 0, 0)) (H1 : HR N τ (h1.new (.loop lp)) w1)
    (hg : Glob σ) (hT : TmR σ tm C.nt a.tmps) (M : Mid P τ C tm ds cp b { a with defers := mark ++ a.defers } cs) (hk : All2 (ItR σ) k kk)
    (hf : VR σ (.func fn first cap) (rho a.tmps f))
    (he : (Instr.enterLoop b.fn a.tmps ps assign body b.roundOf).run P w = .ok (n1, mark) w1) :
    ∃ r ∈ l, FinR P N h.next σ C (lone (b.atR a (.code (.rangeFunc f ps assign body) :: kk)) cs w) cs w r := by
  have hv := VR.mono hu.1 _ _ hf
  simp only [VR] at hv
  obtain ⟨fn', F, Cp, hfv, f1, f2, f3⟩ := hv
  have hres : (resolve a.eval (rangeCall f n1) 0).run P w1 = .ok { target := .fn fn' Cp, args := F ++ #[.func (.yield n1) #[] #[]] } w1 := by
    unfold resolve
    have hmap : Array.map (rho a.tmps) #[Operand.const (Value.func (Fn.yield n1) #[] #[])] = #[Value.func (.yield n1) #[] #[]] := by simp [rho]
    simp only [eval_rho, hfv, Deferred.ofValue, Sem.run_pure, hmap]
  have hyield : VRL τ (first ++ [.func (.yield h1.next) [] []]) (F ++ #[Value.func (.yield n1) #[] #[]]).toList := by
    rw [Array.toList_append]
    refine f2.append ⟨_, _, rfl, ?_, rfl⟩
    refine ⟨.yield n1, #[], #[], rfl, ⟨n1, 0, 0, hτ, rfl⟩, rfl, rfl⟩
  have hA := invokeF_ok (P := P) K H1 f1 f3 hyield
  cases hact : invokeF G fn cap (first ++ [.func (.yield h1.next) [] []]) (h1.new (.loop lp)) with
  | call f0 args h0 =>
    rw [hact] at e hA
    obtain ⟨rfl, hA⟩ := hA
    obtain ⟨ls, hcall, hj⟩ := bindJ_ok e
    obtain ⟨fn0, body0, hfn, hbody, hC⟩ := Cl f0 args _ ls hcall
    obtain ⟨L0, hr, hL0⟩ := hA fn0 body0 hfn hbody
    have hst := stepR_rangeFunc (P := P) (b := b) (a := a) (k := kk) (cs := cs) he hres hr
    obtain ⟨r1, hr1, ρ, w2, hu2, H2, hb2, hn2, hout⟩ := hC N τ w1 L0 (b.atR { a with defers := mark ++ a.defers } (.inRangeFunc n1 :: kk) :: cs) (hg.mono hu.1) H1 hL0
    obtain ⟨Lx, hLx, hsub⟩ := joinM_ok hj r1 hr1
    obtain ⟨o, h2, cp2⟩ := r1
    cases o with
    | panic ch => simp only [rfAfter] at hLx; cases hLx
    | ret v =>
      simp only [rfAfter] at hLx
      obtain ⟨fr, y, cs', f', q1, q2, q3, q4, q5, q6, q7, q8, q9⟩ := hout
      obtain ⟨rfl, _⟩ := q9
      have hst2 : step P (lone fr (b.atR { a with defers := mark ++ a.defers } (.inRangeFunc n1 :: kk) :: cs) w2) = .next (lone (b.atR { a with defers := mark ++ a.defers } (.endRangeFunc n1 :: kk)) cs w2) := by
        rw [← finish_atR_inRangeFunc n1 y]
        exact step_leave_returned ⟨q2, q3, q4, f', q6, q7⟩
      have hle : σ.le ρ := Sg.le_trans hu.1 hu2.1
      obtain ⟨r, hr', hF⟩ := cont_ok (tmP := tm) (a := { a with defers := mark ++ a.defers }) (kk := .endRangeFunc n1 :: kk) S hLx (hg.mono hle) H2 (hT.mono hle) (M.mono hu2.1)
        (.cons ⟨n1, 0, 0, hu2.1 _ _ hτ, rfl⟩ (hk.mono fun _ _ => ItR.mono hle))
      have hnn : h.next ≤ h2.next := by
        have : h1.next + 1 ≤ h2.next := hn2
        omega
      exact ⟨r, hsub r hr', hF.of_steps (.head hst (q1.trans (.one hst2))) (hu.trans hu2 (by rw [AH.new_next]; omega)) hnn (hb.trans hb2)⟩
  | _ => rw [hact] at e; cases e

theorem rf_ok (K : GlOk P G) (S : Sound P G run) (Cl : CallOk P G run) {f : Operand} {ps : Array Tmp} {assign body : Code} (e : cRF G f ps assign body run k C tm ds h cp = .ok l) (hg : Glob σ) (H : HR N σ h w) (hT : TmR σ tm C.nt a.tmps)
    (M : Mid P σ C tm ds cp b a cs) (hk : All2 (ItR σ) k kk) :
    ∃ r ∈ l, FinR P N h.next σ C (lone (b.atR a (.code (.rangeFunc f ps assign body) :: kk)) cs w) cs w r := by
  unfold cRF at e
  split at e
  · rename_i fn first cap hev
    have hf := evalQ_ok hT hg hev
    unfold rfIn at e
    cases hround : C.round with
    | none =>
      rw [hround] at e
      simp only at e
      unfold rfLoop at e
      have hf1 : σ h.next = none := H.fresh _ (Nat.le_refl _)
      have H1 : HR N (σ.put h.next (w.heap.size, 0, 0)) (h.new (.deferred (some []))) (w.alloc (.deferred (some []))) :=
        HR.new (n := 0) H (alloc_heap _) ⟨[], by rw [alloc_heap, push_get], .nil⟩
      have hu1 : Sg.up h.next σ (σ.put h.next (w.heap.size, 0, 0)) := Sg.up_put _ hf1 (Nat.le_refl _)
      have hf2 : (σ.put h.next (w.heap.size, 0, 0)) (h.new (.deferred (some []))).next = none := H1.fresh _ (Nat.le_refl _)
      have hu2 : Sg.up h.next (σ.put h.next (w.heap.size, 0, 0)) ((σ.put h.next (w.heap.size, 0, 0)).put (h.new (.deferred (some []))).next (w.heap.size + 1, 0, 0)) :=
        Sg.up_put _ hf2 (by rw [AH.new_next]; omega)
      have hfn : b.fn = C.fn := M.fn
      have hsz := alloc_size w (.deferred (some []))
      have H2 : HR N ((σ.put h.next (w.heap.size, 0, 0)).put (h.new (.deferred (some []))).next (w.heap.size + 1, 0, 0)) ((h.new (.deferred (some []))).new (.loop ⟨.ready, none, C.fn, tm, C.nt, ps.toList, assign, body, h.next⟩))
          ((w.alloc (.deferred (some []))).alloc (.loop { state := .ready, pending := none, fn := b.fn, tmps := a.tmps, params := ps, assign, body, defers := w.heap.size })) := by
        have := HR.new (n := 0) (o := .loop ⟨.ready, none, C.fn, tm, C.nt, ps.toList, assign, body, h.next⟩) H1
          (w' := (w.alloc (.deferred (some []))).alloc (.loop { state := .ready, pending := none, fn := b.fn, tmps := a.tmps, params := ps, assign, body, defers := w.heap.size })) (alloc_heap _)
          ⟨_, by rw [alloc_heap, push_get], rfl, rfl, hfn, hT.mono (Sg.le_trans hu1.1 (Sg.le_put _ hf2)), rfl, rfl, rfl, 0, 0, Sg.le_put _ hf2 _ _ (Sg.put_self σ h.next _)⟩
        rw [hsz] at this
        exact this
      have hu : Sg.up h.next σ ((σ.put h.next (w.heap.size, 0, 0)).put (h.new (.deferred (some []))).next (w.heap.size + 1, 0, 0)) := hu1.trans hu2 (Nat.le_refl _)
      have hro : b.roundOf = none := M.roundNone hround
      refine rf_call (n1 := w.heap.size + 1) (mark := [{ target := .collected w.heap.size, args := #[] }]) K S Cl e hu (by rw [AH.new_next]; omega) ?_ (Sg.put_self _ _ _) H2 hg hT ?_ hk hf ?_
      · refine Below.alloc (Below.alloc (Below.refl _ _) H.big.2 _) ?_ _
        rw [hsz]
        have := H.big.2
        omega
      · have M' := M.mono hu.1
        refine ⟨M'.fn, M'.kind, M'.round, M'.kinds, M'.fnok, M'.tmP, .cons ?_ M'.defs, M'.cal⟩
        refine ⟨w.heap.size, 0, 0, ?_, rfl⟩
        rw [Sg.put_other _ _ (by rw [AH.new_next]; omega)]
        exact Sg.put_self _ _ _
      · rw [hro]
        exact run_enterLoop_outer _ _ _ _ _
    | some l0 =>
      rw [hround] at e
      simp only at e
      split at e
      · rename_i lo hlo
        unfold rfLoop at e
        have hr := M.round
        rw [hround] at hr
        obtain ⟨cl, d, n, hs, hro⟩ := hr
        obtain ⟨L, hw, hL⟩ := H.obj _ _ _ _ _ hlo hs
        obtain ⟨q1, q2, q3, q4, q5, q6, q7, d', n', q8⟩ := hL
        have hf1 : σ h.next = none := H.fresh _ (Nat.le_refl _)
        have hu : Sg.up h.next σ (σ.put h.next (w.heap.size, 0, 0)) := Sg.up_put _ hf1 (Nat.le_refl _)
        have H1 := HR.new (n := 0) (o := .loop ⟨.ready, none, C.fn, tm, C.nt, ps.toList, assign, body, lo.defers⟩) H
          (w' := w.alloc (.loop { state := .ready, pending := none, fn := b.fn, tmps := a.tmps, params := ps, assign, body, defers := L.defers })) (alloc_heap _)
          ⟨{ state := .ready, pending := none, fn := b.fn, tmps := a.tmps, params := ps, assign, body, defers := L.defers }, by rw [alloc_heap, push_get], rfl, rfl, M.fn, hT.mono hu.1, rfl, rfl, rfl, d', n', hu.1 _ _ q8⟩
        refine rf_call (n1 := w.heap.size) (mark := []) K S Cl e hu (Nat.le_refl _) (Below.alloc (Below.refl _ _) H.big.2 _) (Sg.put_self _ _ _) H1 hg hT (M.mono hu.1) hk hf ?_
        rw [hro]
        exact run_enterLoop_inner _ _ _ _ _ hw
      · cases e
  · cases e
end
end Go.Ex

/- Control: one step of a frame. Conditions: the tables are the program's; deeper runs are right. -/
namespace Go.Ex
open Go.RowKit (Below)
section
variable {N : Nat} {P : Program} {G : Gl} {run : RunT} {C : FC} {k : List AItem} {kk : List Item} {tm tmP : T SV} {ds : List ADef} {h : AH} {cp : CP} {l : List Fin1} {σ : Sg} {w : World} {b : Frame} {a : Go.Act} {cs : List Frame}

theorem FinR.head {nx : Nat} {m0 m1 : Machine} {r : Fin1} (k : FinR P N nx σ C m1 cs w r) (hs : step P m0 = .next m1) : FinR P N nx σ C m0 cs w r :=
  k.of_steps (.one hs) (Sg.up_refl _ _) (Nat.le_refl _) (Below.refl _ _)

theorem code_ok (hm : P.follows .mixedOrders = true) (K : GlOk P G) (S : Sound P G run) (Cl : CallOk P G run) (Rd : RoundOk P G run) (c : Code) (e : codeRun G c run k C tm ds h cp = .ok l) (hg : Glob σ) (H : HR N σ h w) (hT : TmR σ tm C.nt a.tmps)
    (M : Mid P σ C tm ds cp b a cs) (hk : All2 (ItR σ) k kk) : ∃ r ∈ l, FinR P N h.next σ C (lone (b.atR a (.code c :: kk)) cs w) cs w r := by
  cases c <;> simp only [codeRun] at e
  case ret =>
    refine leave_ok S (jump := some .ret) e hg H hT M (fun hb _ => stepR_ret hb) (fun cl v w' c cs' hb hk hr hcs => ?_)
    rw [hcs]; exact stepR_round_ret hb hk hr
  case skip =>
    obtain ⟨r, hr, hF⟩ := cont_ok S e hg H hT M hk
    exact ⟨r, hr, hF.head stepR_skip⟩
  case seq x y =>
    obtain ⟨r, hr, hF⟩ := cont_ok S e hg H hT M (.cons (rfl : ItR σ (.code x) (.code x)) (.cons (rfl : ItR σ (.code y) (.code y)) hk))
    exact ⟨r, hr, hF.head stepR_seq⟩
  case cond c x y =>
    unfold cCond at e
    split at e
    · rename_i hc
      have h1 := evalQ_ok hT hg hc
      simp only [VR] at h1
      obtain ⟨r, hr, hF⟩ := cont_ok S e hg H hT M (.cons (rfl : ItR σ (.code x) (.code x)) hk)
      exact ⟨r, hr, hF.head (stepR_cond (t := true) (by rw [eval_rho]; exact h1))⟩
    · rename_i hc
      have h1 := evalQ_ok hT hg hc
      simp only [VR] at h1
      obtain ⟨r, hr, hF⟩ := cont_ok S e hg H hT M (.cons (rfl : ItR σ (.code y) (.code y)) hk)
      exact ⟨r, hr, hF.head (stepR_cond (t := false) (by rw [eval_rho]; exact h1))⟩
    · cases e
  case block id body =>
    obtain ⟨r, hr, hF⟩ := cont_ok S e hg H hT M (.cons (rfl : ItR σ (.code body) (.code body)) (.cons (rfl : ItR σ (.inBlock id) (.inBlock id)) hk))
    exact ⟨r, hr, hF.head stepR_block⟩
  case loop body =>
    obtain ⟨r, hr, hF⟩ := cont_ok S e hg H hT M (.cons (rfl : ItR σ (.code body) (.code body)) (.cons (rfl : ItR σ (.inLoop body) (.inLoop body)) hk))
    exact ⟨r, hr, hF.head stepR_loop⟩
  case exit id =>
    unfold cExit at e
    obtain ⟨x1, x2⟩ := exitTo_ok (id := id) hk
    split at e
    · rename_i k' hk'
      obtain ⟨kk', y1, y2⟩ := x1 k' hk'
      obtain ⟨r, hr, hF⟩ := cont_ok S e hg H hT M y2
      exact ⟨r, hr, hF.head (stepR_exit y1)⟩
    · rename_i hk'
      refine leave_ok S (jump := some (.exit id)) e hg H hT M (fun hb hj => ?_) (fun cl v w' c cs' hb hkd hr hcs => ?_)
      · rcases hj with hj | hj <;> cases hj
      · rw [hcs]; exact stepR_round_exit hb hkd (x2 hk') hr
  case region id ops draw => exact region_ok hm K S Cl Rd e hg H hT M hk
  case rangeFunc f params assign body => exact rf_ok K S Cl e hg H hT M hk
  all_goals cases e

theorem item_ok (hm : P.follows .mixedOrders = true) (K : GlOk P G) (S : Sound P G run) (Cl : CallOk P G run) (Rd : RoundOk P G run) {it : AItem} {i : Item} (hi : ItR σ it i) (e : itemRun G it run k C tm ds h cp = .ok l) (hg : Glob σ) (H : HR N σ h w)
    (hT : TmR σ tm C.nt a.tmps) (M : Mid P σ C tm ds cp b a cs) (hk : All2 (ItR σ) k kk) : ∃ r ∈ l, FinR P N h.next σ C (lone (b.atR a (i :: kk)) cs w) cs w r := by
  cases it <;> simp only [itemRun] at e <;> simp only [ItR] at hi
  case code c => subst hi; exact code_ok hm K S Cl Rd c e hg H hT M hk
  case inBlock id =>
    subst hi
    obtain ⟨r, hr, hF⟩ := cont_ok S e hg H hT M hk
    exact ⟨r, hr, hF.head stepR_inBlock⟩
  case inLoop body =>
    subst hi
    obtain ⟨r, hr, hF⟩ := cont_ok S e hg H hT M (.cons (rfl : ItR σ (.code body) (.code body)) (.cons (rfl : ItR σ (.inLoop body) (.inLoop body)) hk))
    exact ⟨r, hr, hF.head stepR_inLoop⟩
  case beginRound =>
    subst hi
    unfold iBeg at e
    split at e
    · rename_i l0 hround
      split at e
      · rename_i lp hlp
        unfold begL at e
        split at e
        · rename_i hst
          have hr := M.round
          rw [hround] at hr
          obtain ⟨cl, d, n, hs, hro⟩ := hr
          obtain ⟨L, hw, hL⟩ := H.obj _ _ _ _ _ hlp hs
          obtain ⟨p1, p2⟩ := putLoop H hlp hs hw hL .busy lp.pending
          have hpe : L.pending = lp.pending := hL.2.1
          have hsta : L.state = .ready := hL.1.trans hst
          have hrun := run_beginRound (P := P) hw hsta
          have heq : ({ L with state := .busy, pending := lp.pending } : Loop) = { L with state := .busy } := by rw [← hpe]
          rw [heq] at p1 p2
          obtain ⟨r, hr', hF⟩ := cont_ok S e hg p1 hT M hk
          exact ⟨r, hr', hF.of_steps (.one (stepR_beginRound hro hrun)) (Sg.up_refl _ _) (Nat.le_refl _) p2⟩
        · cases e
      · cases e
    · cases e
  case endRangeFunc l0 =>
    obtain ⟨cl, d, n, hs, rfl⟩ := hi
    unfold iEnd at e
    split at e
    · rename_i lp hlp
      unfold endL at e
      split at e
      · cases e
      · rename_i hst
        obtain ⟨L, hw, hL⟩ := H.obj _ _ _ _ _ hlp hs
        obtain ⟨p1, p2⟩ := putLoop H hlp hs hw hL .exhausted lp.pending
        have hpe : L.pending = lp.pending := hL.2.1
        have hrun := run_endLoop (P := P) hw (by rw [hL.1]; exact hst)
        have heq : ({ L with state := .exhausted, pending := lp.pending } : Loop) = { L with state := .exhausted } := by rw [← hpe]
        rw [heq] at p1 p2
        have hkk : All2 (ItR σ) (pendK k lp.pending) ((L.pending.map Item.code).toList ++ kk) := by
          rw [hpe]
          cases lp.pending with
          | none => exact hk
          | some c => exact .cons (rfl : ItR σ (.code c) (.code c)) hk
        obtain ⟨r, hr', hF⟩ := cont_ok S e hg p1 hT M hkk
        exact ⟨r, hr', hF.of_steps (.one (stepR_endRangeFunc hrun)) (Sg.up_refl _ _) (Nat.le_refl _) p2⟩
    · cases e
  all_goals exact hi.elim

theorem stepRun_ok (hm : P.follows .mixedOrders = true) (K : GlOk P G) (S : Sound P G run) (Cl : CallOk P G run) (Rd : RoundOk P G run) {fr : Frame} (e : stepRun G run C tm ds h cp k = .ok l) (hg : Glob σ) (H : HR N σ h w) (F : FrR P σ C k tm ds .run fr) (hc : CalR σ C cp cs) :
    ∃ r ∈ l, FinR P N h.next σ C (lone fr cs w) cs w r := by
  have hmode : fr.mode = .run := F.mode
  have hk := F.todo rfl
  have M : Mid P σ C tm ds cp fr ⟨fr.tmps, fr.defers⟩ cs := ⟨F.fn, F.kind, F.round, F.kinds, F.fnok, F.tms, F.defs, hc⟩
  rw [← atR_eta hmode]
  cases k with
  | nil =>
    cases htodo : fr.todo with
    | cons => rw [htodo] at hk; cases hk
    | nil =>
      refine leave_ok S (jump := none) e hg H F.tms M (fun hb _ => stepR_end hb) (fun cl v w' c cs' hb hk hr hcs => ?_)
      rw [hcs]; exact stepR_round_end hb hk hr
  | cons it k =>
    cases htodo : fr.todo with
    | nil => rw [htodo] at hk; cases hk
    | cons i kk =>
      rw [htodo] at hk
      cases hk with
      | cons h1 h2 => exact item_ok hm K S Cl Rd h1 e hg H F.tms M h2
end
end Go.Ex

/- Control: results, deferred calls, entering. Conditions: the tables are the program's; deeper runs are right. -/
namespace Go.Ex
open Go.RowKit (Below)
section
variable {N : Nat} {P : Program} {G : Gl} {run : RunT} {C : FC} {tm : T SV} {ds : List ADef} {h : AH} {cp : CP} {l : List Fin1} {σ : Sg} {w : World} {cs : List Frame} {A : Array Value} {nt : Nat}

/-! ### results -/
def readRes (tmps : Array Value) : ResultVar → Sem Value
  | .tmp t => pure (tmps.getD t undef)
  | .cell a t => do loadVar t (← asAddr (tmps.getD a undef))
theorem res1_ok (K : GlOk P G) (H : HR N σ h w) (hT : TmR σ tm nt A) {r : ResultVar} {v : SV} (e : res1 G tm h r = some v) : ∃ y, (readRes A r).run P w = .ok y w ∧ VR σ v y := by
  cases r with
  | tmp t =>
    obtain ⟨y, h1, h2⟩ := hT.2 t v e
    refine ⟨y, ?_, h2⟩
    simp [readRes, h1]
  | cell a t =>
    simp only [res1] at e
    split at e
    · rename_i b off ha
      obtain ⟨y, h1, h2⟩ := hT.2 a _ ha
      simp only [VR] at h2
      obtain ⟨cb, d, n, hs, hd, rfl⟩ := h2
      obtain ⟨z, z1, z2⟩ := run_loadAt (P := P) (w := w) K H hs hd e
      refine ⟨z, ?_, z2⟩
      have hgd : A.getD a undef = .pointer (some ⟨cb, off - d, none⟩) := by simp [h1]
      simp only [readRes, hgd, asAddr]
      rw [Sem.run_bind]
      exact z1
    · cases e
theorem resL_ok (K : GlOk P G) (H : HR N σ h w) (hT : TmR σ tm nt A) : ∀ {rs : List ResultVar} {l : List SV}, resultsA G tm h rs = some l → ∃ L, (rs.mapM (readRes A)).run P w = .ok L w ∧ VRL σ l L
  | [], l, e => by
    simp only [resultsA] at e
    cases e
    exact ⟨[], rfl, rfl⟩
  | r :: rest, l, e => by
    simp only [resultsA] at e
    split at e
    · rename_i v l' h1 h2
      cases e
      obtain ⟨y, y1, y2⟩ := res1_ok (P := P) K H hT h1
      obtain ⟨L, L1, L2⟩ := resL_ok K H hT h2
      refine ⟨y :: L, ?_, y, L, rfl, y2, L2⟩
      rw [List.mapM_cons]
      simp only [Sem.run_bind, y1, Result.andThen_ok, L1, Sem.run_pure]
    · cases e
theorem result_ok (K : GlOk P G) (H : HR N σ h w) (hT : TmR σ tm nt A) {fn : Func} {v : SV} (e : resultA G fn tm h = some v) : ∃ y, (results fn A).run P w = .ok y w ∧ VR σ v y := by
  have hres : results fn A = (do let vs ← fn.results.mapM (readRes A); pure (if h : vs.size = 1 then vs[0] else .tuple vs)) := by
    rfl
  rw [hres, Array.mapM_eq_mapM_toList]
  unfold resultA at e
  split at e
  · rename_i v' hl
    cases e
    obtain ⟨L, L1, L2⟩ := resL_ok (P := P) K H hT hl
    obtain ⟨y, s, rfl, y1, y2⟩ := L2
    have : s = [] := y2
    subst this
    refine ⟨y, ?_, y1⟩
    simp only [Sem.run_bind, Sem.run_map, L1, Result.andThen_ok, Sem.run_pure]
    rfl
  · rename_i l' hne hl
    cases e
    obtain ⟨L, L1, L2⟩ := resL_ok (P := P) K H hT hl
    refine ⟨.tuple L.toArray, ?_, L.toArray, rfl, by simpa using L2⟩
    simp only [Sem.run_bind, Sem.run_map, L1, Result.andThen_ok, Sem.run_pure]
    have hlen : L.toArray.size ≠ 1 := by
      intro h1
      have h2 : L.length = l'.length := L2.length
      have h3 : l'.length = 1 := by simpa [h2] using h1
      match l', h3 with
      | [x], _ => exact hne x rfl
    rw [dif_neg hlen]
  · cases e

/-! ### entering -/
theorem FinR.renum {nx : Nat} {f : FuncId} {n0 n1 : Nat} {kd : CallKind} {rd : Option Nat} {m : Machine} {r : Fin1} (k : FinR P N nx σ ⟨f, n0, kd, rd⟩ m cs w r) : FinR P N nx σ ⟨f, n1, kd, rd⟩ m cs w r := by
  obtain ⟨τ, w', a, b, c, d, e⟩ := k
  refine ⟨τ, w', a, b, c, d, ?_⟩
  obtain ⟨o, h', cp'⟩ := r
  cases o <;> exact e
theorem enter_tmps {args : List SV} {L : Array Value} (hL : VRL σ args L.toList) (n : Nat) : TmR σ (fillT .e 0 args) (maxN args.length n) (L ++ Array.replicate (n - L.size) undef) := by
  have hs : L.size = args.length := by have := hL.length; simpa using this
  refine ⟨?_, fun t v hv => ?_⟩
  · unfold maxN
    split
    · rename_i h1
      have : args.length ≤ n := ble_true.1 h1
      simp; omega
    · rename_i h1
      have : n < args.length := ble_false.1 h1
      simp; omega
  · rw [fillT_get] at hv
    split at hv
    · rename_i ht
      obtain ⟨y, y1, y2⟩ := hL.get hv
      refine ⟨y, ?_, y2⟩
      rw [Array.getElem?_append_left (by omega), ← Array.getElem?_toList]
      simpa using y1
    · rw [T.get_e] at hv; cases hv
theorem enter_ok (K : GlOk P G) (S : Sound P G run) {f : FuncId} {args : List SV} {kind : CallKind} (e : enterF run f args kind h cp (G.fn f) = .ok l) (hkd : kind = .normal ∨ kind = .deferred) :
    ∃ fn body, G.fn f = some fn ∧ fn.body = some body ∧ ∀ N σ w L cs, Glob σ → HR N σ h w → VRL σ args L.toList → CalR σ ⟨f, 0, kind, none⟩ cp cs →
      ∃ r ∈ l, FinR P N h.next σ ⟨f, 0, kind, none⟩ (lone (Frame.enter P f L kind) cs w) cs w r := by
  cases hfn : G.fn f with
  | none => rw [hfn] at e; cases e
  | some fn =>
    rw [hfn] at e
    simp only [enterF, enterK] at e
    cases hbody : fn.body with
    | none => rw [hbody] at e; cases e
    | some body =>
      rw [hbody] at e
      refine ⟨fn, body, rfl, hbody, fun N σ w L cs hg H hL hc => ?_⟩
      have hP := K.fn f fn hfn
      obtain ⟨r, hr, hF⟩ := S _ _ _ _ _ _ _ _ e N σ w (Frame.enter P f L kind) cs hg H
        ⟨rfl, rfl, rfl, by
          have := enter_tmps (σ := σ) hL fn.ntmps
          simpa [Frame.enter, hP] using this, .nil, rfl, fun _ => by
          have : (Frame.enter P f L kind).todo = [.code body] := by simp [Frame.enter, hP, hbody]
          rw [this]
          exact .cons (rfl : ItR σ (.code body) (.code body)) .nil, by
          rcases hkd with rfl | rfl
          · exact .inl rfl
          · exact .inr ⟨rfl, rfl⟩, fn, hP⟩ hc
      exact ⟨r, hr, hF.renum⟩
theorem call0_ok (K : GlOk P G) (S : Sound P G run) {f : FuncId} {args : List SV} (e : enterF run f args .normal h none (G.fn f) = .ok l) :
    ∃ fn body, G.fn f = some fn ∧ fn.body = some body ∧ ∀ N σ w L cs, Glob σ → HR N σ h w → VRL σ args L.toList →
      ∃ r ∈ l, FinR P N h.next σ ⟨f, 0, .normal, none⟩ (lone (Frame.enter P f L .normal) cs w) cs w r := by
  obtain ⟨fn, body, h1, h2, h3⟩ := enter_ok K S e (.inl rfl)
  exact ⟨fn, body, h1, h2, fun N σ w L cs hg H hL => h3 N σ w L cs hg H hL ⟨rfl, fun h => absurd rfl h⟩⟩
theorem round_ok (K : GlOk P G) (S : Sound P G run) : RoundOk P G run := by
  intro l0 args h ls e
  unfold runRound at e
  split at e
  · rename_i lp hlp
    unfold roundL at e
    split at e
    · rename_i fn hlen hall hfn
      refine ⟨lp, hlp, beq_true.1 hlen, fun i hi => blt_true.1 (List.all_eq_true.1 hall i hi), ?_⟩
      intro N σ w T c cs cl d n hg H hs hT
      exact S _ _ _ _ _ _ _ _ e N σ w (Frame.round cl lp.fn T lp.assign lp.body .normal) (c :: cs) hg H
        ⟨rfl, rfl, ⟨cl, d, n, hs, rfl⟩, hT, .nil, rfl, fun _ => .cons rfl (.cons rfl (.cons rfl .nil)), .inl rfl, _, K.fn _ _ hfn⟩ ⟨rfl, fun _ => by simp⟩
    · cases e
  · cases e

/-! ### on the way out -/
theorem step_defer_val {fr : Frame} {d : Deferred} {ds : List Deferred} {fv : Fn} {cap : Array Value} {x : Next} {y : Value} {w' : World} (hm : fr.mode ≠ .run) (hd : fr.defers = d :: ds) (ht : d.target = .fn fv cap)
    (hi : (invoke d.target d.args).run P w = .ok x w') (hv : valOf x = some y) : step P (lone fr cs w) = .next (lone { fr with defers := ds } cs w') := by
  obtain ⟨t, a⟩ := d
  simp only at ht hi
  subst ht
  refine step_lone_go ?_
  cases hmode : fr.mode with
  | run => exact absurd hmode hm
  | returning => cases x <;> simp only [valOf] at hv <;> first | (cases hv; done) | simp [stepG, unwind, callDeferred, hmode, hd, Sem.runT_eq, hi, GStep.bare_after]
  | panicking chain => cases x <;> simp only [valOf] at hv <;> first | (cases hv; done) | simp [stepG, unwind, callDeferred, hmode, hd, Sem.runT_eq, hi, GStep.bare_after]

theorem settle_ok {τ : Sg} {c : CP} {m : FrameMode} (h : CpR τ c m) : ModR τ (afterCp c) (settle m) ∧ afterCp c ≠ .run := by
  cases c with
  | none =>
    have : m = .returning := h
    subst this
    exact ⟨rfl, by simp [afterCp]⟩
  | some ch =>
    obtain ⟨chain, rfl, hch⟩ := h
    cases hch with
    | nil => exact ⟨⟨[], rfl, .nil⟩, by simp [afterCp]⟩
    | cons h1 h2 =>
      rename_i p e ps es
      obtain ⟨pv, pr⟩ := p
      obtain ⟨ev, er, eg⟩ := e
      obtain ⟨q1, q2, q3⟩ := h1
      simp only at q1 q2 q3
      subst q2 q3
      cases er with
      | false => exact ⟨⟨_, rfl, .cons ⟨q1, rfl, rfl⟩ h2⟩, by simp [afterCp]⟩
      | true =>
        have hall : ∀ {ps : List APan} {es : List PanicEntry}, All2 (PanR τ) ps es → es.dropWhile (!·.goexit) = [] := by
          intro ps es h
          induction h with
          | nil => rfl
          | cons a _ ih => rw [List.dropWhile_cons, a.2.2]; exact ih
        refine ⟨?_, by simp [afterCp]⟩
        show settle _ = .returning
        simp only [settle, hall h2]

theorem cpR_of {m : AMode} {mode : FrameMode} (hm : m ≠ .run) (h : ModR σ m mode) : CpR σ (cpOf m) mode := by
  cases m with
  | run => exact absurd rfl hm
  | returning => exact h
  | panicking c => exact h

theorem stepEnd_ok (K : GlOk P G) (S : Sound P G run) {m : AMode} {k : List AItem} {fr : Frame} (hm : m ≠ .run) (e : stepEnd G run C tm m h cp ds = .ok l) (hg : Glob σ) (H : HR N σ h w) (F : FrR P σ C k tm ds m fr) (hc : CalR σ C cp cs) :
    ∃ r ∈ l, FinR P N h.next σ C (lone fr cs w) cs w r := by
  have hmode : fr.mode ≠ .run := by
    have := F.mode
    cases m with
    | run => exact absurd rfl hm
    | returning => have : fr.mode = .returning := this; rw [this]; simp
    | panicking c => obtain ⟨ch, h1, _⟩ := this; rw [h1]; simp
  cases ds with
  | nil =>
    have hds : fr.defers = [] := by
      have := F.defs
      cases hd : fr.defers with
      | nil => rfl
      | cons => rw [hd] at this; cases this
    have hcs : CsR σ C cp cs cs := by
      unfold CsR
      have h1 := hc.1
      rcases F.kinds with hk | ⟨hk, _⟩
      · rw [hk] at h1 ⊢; exact ⟨rfl, h1⟩
      · rw [hk] at h1 ⊢
        obtain ⟨c, rest, rfl, h2⟩ := h1
        exact ⟨c, rest, c.mode, rfl, rfl, h2⟩
    simp only [stepEnd] at e
    cases m with
    | run => exact absurd rfl hm
    | panicking c =>
      simp only [endF] at e
      cases e
      obtain ⟨chain, h1, h2⟩ := F.mode
      exact ⟨_, List.mem_cons_self, σ, w, Sg.up_refl _ _, H, Below.refl _ _, Nat.le_refl _, fr, chain, cs, Steps.refl _ _, h1, h2, hds, F.fnok, hcs⟩
    | returning =>
      simp only [endF] at e
      cases hround : C.round with
      | some _ => rw [hround] at e; cases e
      | none =>
        rw [hround] at e
        simp only at e
        cases hfn : G.fn C.fn with
        | none => rw [hfn] at e; cases e
        | some fn =>
          rw [hfn] at e
          simp only [retF] at e
          split at e
          · rename_i v hv
            cases e
            obtain ⟨y, y1, y2⟩ := result_ok (P := P) K H F.tms hv
            refine ⟨_, List.mem_cons_self, σ, w, Sg.up_refl _ _, H, Below.refl _ _, Nat.le_refl _, ?_⟩
            unfold OutR
            rw [hround]
            exact ⟨fr, y, cs, fn, Steps.refl _ _, F.mode, hds, F.kind, F.fn, by rw [F.fn]; exact K.fn _ _ hfn, y1, y2, hcs⟩
          · cases e
  | cons d ds =>
    simp only [stepEnd] at e
    cases hd : fr.defers with
    | nil => have := F.defs; rw [hd] at this; cases this
    | cons D Ds =>
      have hdefs := F.defs
      rw [hd] at hdefs
      cases hdefs with
      | cons hD hDs =>
        unfold dfRun at e
        unfold DefR at hD
        split at e
        · rename_i b0 htgt
          rw [htgt] at hD
          obtain ⟨cb, de, n, hs, hDt⟩ := hD
          split at e
          · rename_i l0 hl0
            obtain ⟨D', hw, hall⟩ := H.obj _ _ _ _ _ hl0 hs
            have hlt : cb < w.heap.size := (Array.getElem?_eq_some_iff.1 hw).1
            have hst := step_collected (cs := cs) hmode hd hDt (run_takeDeferred (P := P) hw)
            have H' : HR N σ (h.put b0 (.deferred none)) (w.putObj cb (.deferred none)) :=
              H.put hl0 hs (fun k => by simp) (fun c hc => World.putObj_heap_other hc) (by simp) (World.putObj_heap_same hlt)
            obtain ⟨r, hr, hF⟩ := S _ _ _ _ _ _ _ _ e N σ (w.putObj cb (.deferred none)) { fr with defers := D' ++ Ds } cs hg H'
              ⟨F.fn, F.kind, F.round, F.tms, hall.append hDs, F.mode, fun h => absurd h hm, F.kinds, F.fnok⟩ hc
            exact ⟨r, hr, hF.of_steps (.one hst) (Sg.up_refl _ _) (Nat.le_refl _) (below_putObj _ (loop_base H hl0 (fun k => by simp) hs))⟩
          · cases e
        · rename_i fn cap htgt
          rw [htgt] at hD
          obtain ⟨fn', C', hDt, f1, f2, f3⟩ := hD
          have hA := invokeF_ok (P := P) K H f1 f2 f3
          rw [← hDt] at hA
          have hnx := invokeF_next (G := G) (h := h) fn cap d.args
          unfold dfCall at e
          cases hact : invokeF G fn cap d.args h with
          | call f args h0 =>
            rw [hact] at e hA
            simp only at e
            obtain ⟨rfl, hA⟩ := hA
            obtain ⟨ls, hcall, hj⟩ := bindJ_ok e
            obtain ⟨fn0, body0, hfn, hbody, hC⟩ := enter_ok K S hcall (.inr rfl)
            obtain ⟨L, hr, hL⟩ := hA fn0 body0 hfn hbody
            have hst := step_defer (cs := cs) hmode hd hDt hr
            obtain ⟨r1, hr1, τ, w1, hu, H1, hb, hn1, hout⟩ := hC N σ w L ({ fr with defers := Ds } :: cs) hg H hL ⟨⟨_, _, rfl, cpR_of hm F.mode⟩, fun h => absurd rfl h⟩
            obtain ⟨Lx, hLx, hsub⟩ := joinM_ok hj r1 hr1
            obtain ⟨o, h2, c2⟩ := r1
            cases o with
            | panic ch => simp only [dfAfter] at hLx; cases hLx
            | ret v =>
              simp only [dfAfter] at hLx
              obtain ⟨fr2, y, cs', f', q1, q2, q3, q4, q5, q6, q7, q8, q9⟩ := hout
              obtain ⟨c, rest, mm, p1, p2, p3⟩ := q9
              cases p1
              subst p2
              have hst2 := step_going_returned (P := P) (fr := fr2) (c := { { fr with defers := Ds } with mode := mm }) (cs := cs) (w := w1) (v := y) q4 ⟨q2, q3, f', q6, q7⟩
              obtain ⟨s1, s2⟩ := settle_ok p3
              obtain ⟨r, hr', hF⟩ := S _ _ _ _ _ _ _ _ hLx N τ w1 { { { fr with defers := Ds } with mode := mm } with mode := settle mm } cs (hg.mono hu.1) H1
                ⟨F.fn, F.kind, F.round.mono hu.1, F.tms.mono hu.1, hDs.mono fun _ _ => DefR.mono hu.1, s1, fun h => absurd h s2, F.kinds, F.fnok⟩ (hc.mono hu.1)
              exact ⟨r, hsub r hr', hF.of_steps (.head hst (q1.trans (.one hst2))) hu hn1 hb⟩
          | val v h1 =>
            rw [hact] at e hA hnx
            simp only at e
            obtain ⟨τ, x, y, w1, p1, p2, p3, p4, p5, p6⟩ := hA
            have hst := step_defer_val (cs := cs) hmode hd hDt p1 p2
            obtain ⟨r, hr', hF⟩ := S _ _ _ _ _ _ _ _ e N τ w1 { fr with defers := Ds } cs (hg.mono p3.1) p4
              ⟨F.fn, F.kind, F.round.mono p3.1, F.tms.mono p3.1, hDs.mono fun _ _ => DefR.mono p3.1, F.mode.mono p3.1, fun h => absurd h hm, F.kinds, F.fnok⟩ (hc.mono p3.1)
            exact ⟨r, hr', hF.of_steps (.one hst) p3 hnx p6⟩
          | _ => rw [hact] at e; cases e
end
end Go.Ex

/- What is noted of the blocks that an operation touches: all others are as they were. Conditions: none; laws of the executor. -/
namespace Go.Ex
section
variable {G : Gl} {tm : T SV} {h : AH}
/-- all that is not noted is as it was -/
def Dirt (h h' : AH) : Prop := ∀ d, h.d = some d → ∃ d', h'.d = some d' ∧ (∀ b ∈ d, b ∈ d') ∧ ∀ b, b ∉ d' → h'.t.get b = h.t.get b
theorem Dirt.refl (h : AH) : Dirt h h := fun d e => ⟨d, e, fun _ h => h, fun _ _ => rfl⟩
theorem Dirt.trans {a b c : AH} (h : Dirt a b) (k : Dirt b c) : Dirt a c := by
  intro d e
  obtain ⟨d1, e1, s1, t1⟩ := h d e
  obtain ⟨d2, e2, s2, t2⟩ := k d1 e1
  exact ⟨d2, e2, fun b hb => s2 b (s1 b hb), fun b hb => (t2 b hb).trans (t1 b fun hb' => hb (s2 b hb'))⟩
theorem Dirt.put (h : AH) (b : Nat) (o : AObj) : Dirt h (h.put b o) := by
  intro d e
  refine ⟨b :: d, by simp only [AH.put, e], fun c hc => List.mem_cons_of_mem _ hc, fun c hc => ?_⟩
  rw [AH.put_t, if_neg fun hcb => hc (by rw [hcb]; exact List.mem_cons_self)]
theorem Dirt.drop (h : AH) (b : Nat) : Dirt h (h.drop b) := by
  intro d e
  refine ⟨b :: d, by simp only [AH.drop, e], fun c hc => List.mem_cons_of_mem _ hc, fun c hc => ?_⟩
  rw [AH.drop_t, if_neg fun hcb => hc (by rw [hcb]; exact List.mem_cons_self)]
theorem Dirt.new (h : AH) (o : AObj) : Dirt h (h.new o) := by
  intro d e
  refine ⟨h.next :: d, by simp only [AH.new, e], fun c hc => List.mem_cons_of_mem _ hc, fun c hc => ?_⟩
  rw [AH.new_t, if_neg fun hcb => hc (by rw [hcb]; exact List.mem_cons_self)]
theorem Dirt.newCells (h : AH) (e : TypeId) (l : List SV) : Dirt h (h.newCells e l) := Dirt.new h _
theorem Dirt.setG (h : AH) (k : Nat) (l : List Nat) : Dirt h (h.setG k l) := fun d e => ⟨d, e, fun _ h => h, fun _ _ => rfl⟩
theorem Dirt.killL (me lo : Nat) : ∀ (l : List Nat) (h : AH), Dirt h (AH.killL me lo l h).1
  | [], h => Dirt.refl h
  | m :: r, h => by
    have ih := Dirt.killL me lo r h
    simp only [AH.killL]
    generalize AH.killL me lo r h = x at ih
    obtain ⟨h1, l1⟩ := x
    simp only at ih ⊢
    split
    · exact ih
    · split
      · split
        · exact ih
        · exact ih.trans (Dirt.drop h1 m)
      · exact ih
theorem Dirt.kill (h : AH) (g me lo : Nat) : Dirt h (h.kill g me lo) := by
  unfold AH.kill
  split
  · exact Dirt.refl h
  · rename_i l hl
    have ih := Dirt.killL me lo l h
    generalize AH.killL me lo l h = x at ih
    obtain ⟨h1, l1⟩ := x
    exact ih.trans (Dirt.setG h1 _ _)
theorem Dirt.dropL (me : Nat) : ∀ (l : List Nat) (h : AH), Dirt h (AH.dropL me l h)
  | [], h => Dirt.refl h
  | m :: r, h => by
    simp only [AH.dropL]
    split
    · exact Dirt.dropL me r h
    · exact (Dirt.drop h m).trans (Dirt.dropL me r _)
theorem Dirt.forkG (h : AH) (g b : Nat) : Dirt h (h.forkG g b) := by
  unfold AH.forkG
  split
  · exact Dirt.setG h _ _
  · exact (Dirt.dropL b _ h).trans (Dirt.setG _ _ _)
theorem store_dirt {h h' : AH} {b off : Nat} {l : List SV} (e : h.store b off l = some h') : Dirt h h' := by
  unfold AH.store at e
  split at e
  · split at e
    · split at e
      · cases e; exact (Dirt.kill h _ _ _).trans (Dirt.put _ _ _)
      · cases e
    · cases e
  · cases e
def DirtA (h : AH) : Act → Prop
  | .val _ h' => Dirt h h'
  | .alts l => ∀ v h', (v, h') ∈ l → Dirt h h'
  | .call _ _ h' => Dirt h h'
  | _ => True
theorem ofR_dirt {why : String} {r : R1} (hr : ∀ v h', r = some (v, h') → Dirt h h') : DirtA h (ofR why r) := by
  unfold ofR
  split
  · exact hr _ _ rfl
  · trivial
theorem ofH_dirt {why : String} {r : Option AH} (hr : ∀ h', r = some h' → Dirt h h') : DirtA h (ofH why r) := by
  unfold ofH
  split
  · exact hr _ rfl
  · trivial
theorem extern_dirt (x : Ext) (args : List SV) : DirtA h (externSV x args h) := by
  cases x <;> simp only [externSV]
  · first | exact Dirt.refl _ | exact Dirt.put _ _ _
  · unfold xNopP; split <;> first | first | exact Dirt.refl _ | exact Dirt.put _ _ _ | trivial
  · unfold xCas
    split
    · split
      · unfold xCas2
        split
        · split
          · split
            · rename_i hst; exact store_dirt hst
            · trivial
          · first | exact Dirt.refl _ | exact Dirt.put _ _ _
        · trivial
      · trivial
    · trivial
  · unfold xAdd
    split
    · unfold xAdd2
      split
      · split
        · rename_i hst; exact store_dirt hst
        · trivial
      · trivial
    · trivial
  · unfold xClone
    split
    · split
      · exact Dirt.new _ _
      · trivial
    · trivial
  · unfold xIdx
    split
    · split <;> first | first | exact Dirt.refl _ | exact Dirt.put _ _ _ | trivial
    · trivial
  · trivial
theorem callF_dirt (f : FuncId) (args : List SV) : DirtA h (callF G f args h) := by
  unfold callF
  split
  · exact extern_dirt _ _
  · exact Dirt.refl _
theorem invokeF_dirt (fn : Fn) (cap args : List SV) : DirtA h (invokeF G fn cap args h) := by
  cases fn <;> simp only [invokeF]
  · exact callF_dirt _ _
  · split
    · split
      · exact callF_dirt _ _
      · trivial
    · trivial
  · split
    · split
      · exact callF_dirt _ _
      · trivial
    · trivial
    · split
      · exact callF_dirt _ _
      · trivial
    · trivial
  all_goals trivial
theorem append_dirt {ts : Array TypeId} {t : TypeId} {s x v : SV} {h' : AH} (e : appendSV G ts t s x h = some (v, h')) : Dirt h h' := by
  unfold appendSV at e
  split at e
  · split at e
    · split at e
      · split at e
        · cases e
        · unfold apTo at e
          split at e
          · split at e
            · cases e; first | exact Dirt.refl _ | exact Dirt.put _ _ _
            · split at e
              · cases e; exact Dirt.new _ _
              · cases e
          · split at e
            · unfold apSl at e
              split at e
              · split at e
                · cases e; first | exact Dirt.refl _ | exact Dirt.put _ _ _
                · unfold apIn at e
                  split at e
                  · split at e
                    · split at e
                      · cases e; exact (Dirt.kill h _ _ _).trans (Dirt.put _ _ _)
                      · cases e
                    · cases e
                  · cases e
              · split at e
                · unfold apEx at e
                  split at e
                  · cases e; exact Dirt.new _ _
                  · cases e
                · unfold apUn at e
                  split at e
                  · split at e
                    · split at e
                      · split at e
                        · cases e; exact (Dirt.forkG h _ _).trans (Dirt.new _ _)
                        · cases e
                      · cases e
                    · cases e
                  · cases e
            · cases e
          · cases e
      · cases e
    · cases e
  · cases e
theorem copy_dirt {t : TypeId} {x y v : SV} {h' : AH} (e : copySV G t x y h = some (v, h')) : Dirt h h' := by
  unfold copySV at e
  split at e
  · split at e
    · unfold copyN at e
      split at e
      · cases e; first | exact Dirt.refl _ | exact Dirt.put _ _ _
      · unfold copyTo at e
        split at e
        · cases e
        · split at e
          · split at e
            · rename_i hst; cases e; exact store_dirt hst
            · cases e
          · cases e
    · cases e
  · cases e
theorem delete_dirt {t : TypeId} {x y v : SV} {h' : AH} (e : deleteSV G t x y h = some (v, h')) : Dirt h h' := by
  unfold deleteSV at e
  repeat' (split at e)
  all_goals first | (cases e; first | exact Dirt.refl _ | exact Dirt.put _ _ _) | cases e
theorem callB_dirt (b : Builtin) (ts : Array TypeId) (args : List SV) : DirtA h (callB G b ts args h) := by
  unfold callB
  split
  · exact ofR_dirt fun _ _ e => append_dirt e
  · exact ofR_dirt fun _ _ e => copy_dirt e
  · exact ofR_dirt fun _ _ e => delete_dirt e
  all_goals trivial
theorem eCall_dirt (c : Call) : DirtA h (eCall G c tm h) := by
  unfold eCall
  split
  · trivial
  · unfold callO
    split
    · exact callB_dirt _ _ _
    · unfold callI
      split
      · exact invokeF_dirt _ _ _
      · trivial
    · unfold callV
      split
      · exact invokeF_dirt _ _ _
      · trivial
theorem opE_dirt (o : Op) : DirtA h (opE G o tm h) := by
  cases o <;> simp only [opE]
  case alloc e => unfold eAlloc; split <;> first | exact Dirt.new _ _ | trivial
  case box e x => unfold eBox; split <;> first | exact Dirt.new _ _ | trivial
  case buildSlice t n ps =>
    unfold eBSl
    split
    · refine ofR_dirt fun v h' e => ?_
      unfold buildSliceSV at e
      repeat' (split at e)
      all_goals first | (cases e; exact Dirt.new _ _) | cases e
    · trivial
  case store t a x =>
    unfold eStore
    split
    · split
      · unfold stAt
        split
        · split
          · exact ofH_dirt fun h' e => store_dirt e
          · trivial
        · trivial
      · trivial
    · trivial
  case convert s d x =>
    unfold eConv
    split
    · unfold convT
      split
      · refine ofR_dirt fun v h' e => ?_
        unfold convNew at e
        repeat' (split at e)
        all_goals first | (cases e; exact Dirt.new _ _) | cases e
      · unfold convSl
        repeat' split
        all_goals first | exact Dirt.refl _ | trivial
      · trivial
    · trivial
  case makeMap t r =>
    unfold eMkM
    split
    · exact Dirt.new _ _
    · split
      · exact Dirt.new _ _
      · trivial
  case makeSlice t l c =>
    unfold eMkS
    split
    · split
      · refine ofR_dirt fun v h' e => ?_
        unfold makeSliceSV at e
        repeat' (split at e)
        all_goals first | (cases e; exact Dirt.new _ _) | cases e
      · trivial
    · trivial
  case mapUpdate t m k x =>
    unfold eMup
    repeat' split
    all_goals first | trivial | skip
    refine ofH_dirt fun h' e => ?_
    unfold mapUpd at e
    repeat' (split at e)
    all_goals first | (cases e; first | exact Dirt.refl _ | exact Dirt.put _ _ _) | cases e
  case insert t m k x =>
    unfold eMup
    repeat' split
    all_goals first | trivial | skip
    refine ofH_dirt fun h' e => ?_
    unfold mapUpd at e
    repeat' (split at e)
    all_goals first | (cases e; first | exact Dirt.refl _ | exact Dirt.put _ _ _) | cases e
  case mapEntry t m k =>
    unfold eMent
    repeat' split
    all_goals first | trivial | skip
    refine ofR_dirt fun v h' e => ?_
    unfold mapEnt at e
    repeat' (split at e)
    all_goals first | (cases e; first | exact Dirt.refl _ | exact Dirt.put _ _ _) | cases e
  case entryStore t m s x =>
    unfold eEst
    repeat' split
    all_goals first | trivial | skip
    refine ofH_dirt fun h' e => ?_
    unfold entStore at e
    repeat' (split at e)
    all_goals first | (cases e; first | exact Dirt.refl _ | exact Dirt.put _ _ _) | cases e
  case range t x =>
    unfold eRange
    split
    · exact Dirt.new _ _
    · exact Dirt.new _ _
    · unfold rangeM
      split
      · exact Dirt.new _ _
      · trivial
    · trivial
  case next it s =>
    unfold eNext
    split
    · unfold nextSV
      split
      · split
        · first | exact Dirt.refl _ | exact Dirt.put _ _ _
        · split
          · split
            · trivial
            · intro v h' hm
              rcases List.mem_append.1 hm with hm | hm
              · split at hm
                · rcases List.mem_singleton.1 hm with ⟨rfl, rfl⟩
                  first | exact Dirt.refl _ | exact Dirt.put _ _ _
                · cases hm
              · obtain ⟨e, _, he⟩ := List.mem_map.1 hm
                cases he
                first | exact Dirt.refl _ | exact Dirt.put _ _ _
          · trivial
        · split
          · first | exact Dirt.refl _ | exact Dirt.put _ _ _
          · split
            · first | exact Dirt.refl _ | exact Dirt.put _ _ _
            · trivial
        · trivial
      · trivial
    · trivial
  case call c => exact eCall_dirt c
  case defer c => unfold eDefer; split <;> trivial
  case panic x => unfold ePanic; split <;> trivial
  all_goals trivial
end
end Go.Ex

/- Outcomes that are merged: what they have alike. Conditions: none; laws of the executor. -/
namespace Go.Ex
open Go.RowKit (Below)

theorem keepSame_other (l : List Fin1) : ∀ (D : List Nat) (t : T AObj) (b : Nat), b ∉ D → (keepSame l D t).get b = t.get b
  | [], t, b, _ => rfl
  | c :: r, t, b, hb => by
    simp only [keepSame]
    rw [keepSame_other l r _ b fun h => hb (List.mem_cons_of_mem _ h)]
    have hne : b ≠ c := fun h => hb (by rw [h]; exact List.mem_cons_self)
    split
    · split
      · rfl
      · rw [T.get_del, if_neg hne]
    · rfl
theorem keepSame_sub (l : List Fin1) : ∀ (D : List Nat) (t : T AObj) (b : Nat) (o : AObj), (keepSame l D t).get b = some o → t.get b = some o ∧ (b ∈ D → allSame b o l = true)
  | [], t, b, o, h => ⟨h, fun hb => by cases hb⟩
  | c :: r, t, b, o, h => by
    simp only [keepSame] at h
    obtain ⟨h1, h2⟩ := keepSame_sub l r _ b o h
    split at h1
    · rename_i o' ho'
      split at h1
      · rename_i hs
        refine ⟨h1, fun hb => ?_⟩
        cases hb with
        | head => rw [ho'] at h1; cases h1; exact hs
        | tail _ hb => exact h2 hb
      · rw [T.get_del] at h1
        split at h1
        · cases h1
        · rename_i hne
          refine ⟨h1, fun hb => ?_⟩
          cases hb with
          | head => exact absurd rfl hne
          | tail _ hb => exact h2 hb
    · rename_i hn
      refine ⟨h1, fun hb => ?_⟩
      cases hb with
      | head => rw [hn] at h1; cases h1
      | tail _ hb => exact h2 hb
theorem allSame_spec {b : Nat} {o : AObj} : ∀ {l : List Fin1}, allSame b o l = true → ∀ r ∈ l, r.2.1.t.get b = some o
  | [], _, r, hr => by cases hr
  | (o1, h1, c1) :: l, h, r, hr => by
    simp only [allSame, Bool.and_eq_true] at h
    cases hr with
    | head =>
      have h2 := h.1
      split at h2
      · rename_i x hx
        rw [objBeq_ok h2]
        exact hx
      · cases h2
    | tail _ hr => exact allSame_spec h.2 r hr
theorem natsEq_ok : ∀ {a b : List Nat}, natsEq a b = true → a = b
  | [], [], _ => rfl
  | [], _ :: _, h => by cases h
  | _ :: _, [], h => by cases h
  | a :: r, b :: s, h => by
    simp only [natsEq, Bool.and_eq_true] at h
    rw [beq_true.1 h.1, natsEq_ok h.2]
theorem unionR : ∀ (a b : T (List Nat)) (k : List Dg) (l : List Nat), (T.getR a k = some l ∨ T.getR b k = some l) → ∃ l', T.getR (unionG a b) k = some l' ∧ ∀ x ∈ l, x ∈ l'
  | .e, b, k, l, h => by
    simp only [unionG]
    rcases h with h | h
    · cases h
    · exact ⟨l, h, fun _ h => h⟩
  | .n u x y z t, .e, k, l, h => by
    simp only [unionG]
    rcases h with h | h
    · exact ⟨l, h, fun _ h => h⟩
    · cases h
  | .n u a b c d, .n v p q r s, [], l, h => by
    simp only [unionG]
    rw [T.getR_nil] at h ⊢
    rw [T.getR_nil] at h
    cases u with
    | none => cases v with
      | none => rcases h with h | h <;> cases h
      | some v =>
        rcases h with h | h
        · cases h
        · cases h; exact ⟨l, rfl, fun _ h => h⟩
    | some u => cases v with
      | none =>
        rcases h with h | h
        · cases h; exact ⟨l, rfl, fun _ h => h⟩
        · cases h
      | some v =>
        refine ⟨_, rfl, fun z hz => ?_⟩
        split
        · rename_i he
          have := natsEq_ok he
          subst this
          rcases h with h | h <;> (cases h; exact hz)
        · rcases h with h | h
          · cases h; exact List.mem_append_left _ hz
          · cases h; exact List.mem_append_right _ hz
  | .n u a b c d, .n v p q r s, g :: k, l, h => by
    simp only [unionG]
    rw [T.getR_n] at h ⊢
    rw [T.getR_n] at h
    cases g with
    | a => exact unionR a p k l h
    | b => exact unionR b q k l h
    | c => exact unionR c r k l h
    | d => exact unionR d s k l h
theorem union_get (a b : T (List Nat)) (k : Nat) (l : List Nat) (h : a.get k = some l ∨ b.get k = some l) : ∃ l', (unionG a b).get k = some l' ∧ ∀ x ∈ l, x ∈ l' := by
  simp only [T.get_eq] at h ⊢
  exact unionR a b _ l h
theorem allG_get : ∀ (l : List Fin1) (g : T (List Nat)) (k : Nat) (s : List Nat), (g.get k = some s ∨ ∃ r ∈ l, r.2.1.g.get k = some s) → ∃ s', (allG l g).get k = some s' ∧ ∀ x ∈ s, x ∈ s'
  | [], g, k, s, h => by
    rcases h with h | ⟨r, hr, _⟩
    · exact ⟨s, h, fun _ h => h⟩
    · cases hr
  | (o, h1, c) :: l, g, k, s, h => by
    simp only [allG]
    have key : (∃ s1, (unionG g h1.g).get k = some s1 ∧ ∀ x ∈ s, x ∈ s1) ∨ ∃ r ∈ l, r.2.1.g.get k = some s := by
      rcases h with h | ⟨r, hr, h⟩
      · exact .inl (union_get _ _ _ _ (.inl h))
      · cases hr with
        | head => exact .inl (union_get _ _ _ _ (.inr h))
        | tail _ hr => exact .inr ⟨r, hr, h⟩
    rcases key with ⟨s1, k1, k2⟩ | h
    · obtain ⟨s2, k3, k4⟩ := allG_get l _ k s1 (.inl k1)
      exact ⟨s2, k3, fun x hx => k4 x (k2 x hx)⟩
    · exact allG_get l _ k s (.inr h)
theorem maxNext_le : ∀ (l : List Fin1) (n : Nat), n ≤ maxNext l n ∧ ∀ r ∈ l, r.2.1.next ≤ maxNext l n
  | [], n => ⟨Nat.le_refl _, fun r hr => by cases hr⟩
  | (o, h1, c) :: l, n => by
    simp only [maxNext]
    split
    · rename_i hb
      obtain ⟨i1, i2⟩ := maxNext_le l h1.next
      refine ⟨Nat.le_trans (ble_true.1 hb) i1, fun r hr => ?_⟩
      cases hr with
      | head => exact i1
      | tail _ hr => exact i2 r hr
    · rename_i hb
      obtain ⟨i1, i2⟩ := maxNext_le l n
      refine ⟨i1, fun r hr => ?_⟩
      cases hr with
      | head => exact Nat.le_trans (Nat.le_of_lt (ble_false.1 hb)) i1
      | tail _ hr => exact i2 r hr
theorem dirty_mem : ∀ {l : List Fin1} {r : Fin1} {d : List Nat}, r ∈ l → r.2.1.d = some d → ∀ b ∈ d, b ∈ dirty l
  | (o, h1, c) :: l, r, d, hr, hd, b, hb => by
    simp only [dirty]
    cases hr with
    | head => rw [show h1.d = some d from hd]; exact List.mem_append_left _ hb
    | tail _ hr => exact List.mem_append_right _ (dirty_mem hr hd b hb)
theorem outBeq_ok {a b : Out} (h : outBeq a b = true) : a = b := by
  cases a <;> cases b <;> simp only [outBeq] at h <;> first | (cases h; done) | rw [SV.beq_ok _ _ h]
theorem allOut_spec {o : Out} : ∀ {l : List Fin1}, allOut o l = true → ∀ r ∈ l, r.1 = o ∧ r.2.2 = none
  | [], _, r, hr => by cases hr
  | (o1, h1, none) :: l, h, r, hr => by
    simp only [allOut, Bool.and_eq_true] at h
    cases hr with
    | head => exact ⟨(outBeq_ok h.1).symm, rfl⟩
    | tail _ hr => exact allOut_spec h.2 r hr
  | (o1, h1, some _) :: l, h, r, hr => by simp only [allOut] at h; cases h

/-- what a merged outcome says of each of those that were merged -/
theorem mergeF_spec {h : AH} {l L : List Fin1} (hd : ∀ r ∈ l, Dirt h.mark r.2.1) (e : mergeF h.d l = .ok L) :
    ∃ o hm c, L = [(o, hm, c)] ∧ Dirt h hm ∧ ∀ r ∈ l, r.1 = o ∧ r.2.2 = c ∧ r.2.1.next ≤ hm.next ∧ (∀ b ob, hm.t.get b = some ob → r.2.1.t.get b = some ob) ∧
      (∀ k s, r.2.1.g.get k = some s → ∃ s', hm.g.get k = some s' ∧ ∀ x ∈ s, x ∈ s') := by
  have same : ∀ r ∈ l, ∀ b, b ∉ dirty l → r.2.1.t.get b = h.t.get b := by
    intro r hr b hb
    obtain ⟨d', e1, _, e3⟩ := hd r hr [] rfl
    exact e3 b fun hb' => hb (dirty_mem hr e1 b hb')
  cases l with
  | nil => simp only [mergeF] at e; cases e
  | cons r0 l =>
    obtain ⟨o, h1, c⟩ := r0
    have fin : ∀ (hm : AH), (∀ b, b ∉ dirty ((o, h1, c) :: l) → hm.t.get b = h1.t.get b) → hm.d = (match h.d with | none => none | some d => some (dirty ((o, h1, c) :: l) ++ d)) → Dirt h hm := by
      intro hm ht hdm d ed
      rw [ed] at hdm
      refine ⟨_, hdm, fun b hb => List.mem_append_right _ hb, fun b hb => ?_⟩
      have hb' : b ∉ dirty ((o, h1, c) :: l) := fun h => hb (List.mem_append_left _ h)
      rw [ht b hb']
      exact same (o, h1, c) List.mem_cons_self b hb'
    cases l with
    | nil =>
      simp only [mergeF] at e
      cases e
      refine ⟨_, _, _, rfl, fin _ (fun _ _ => rfl) rfl, fun r hr => ?_⟩
      cases hr with
      | head => exact ⟨rfl, rfl, Nat.le_refl _, fun _ _ h => h, fun k s h => ⟨s, h, fun _ h => h⟩⟩
      | tail _ hr => cases hr
    | cons r1 l =>
      cases c with
      | some _ => simp only [mergeF] at e; cases e
      | none =>
        simp only [mergeF] at e
        split at e
        · rename_i hall
          cases e
          obtain ⟨m1, m2⟩ := maxNext_le (r1 :: l) h1.next
          refine ⟨_, _, _, rfl, fin _ (fun b hb => keepSame_other _ _ _ _ hb) rfl, fun r hr => ?_⟩
          have hk : ∀ b ob, (keepSame (r1 :: l) (dirty ((o, h1, none) :: r1 :: l)) h1.t).get b = some ob → r.2.1.t.get b = some ob := by
            intro b ob hb
            obtain ⟨k1, k2⟩ := keepSame_sub _ _ _ _ _ hb
            by_cases hdb : b ∈ dirty ((o, h1, none) :: r1 :: l)
            · cases hr with
              | head => exact k1
              | tail _ hr => exact allSame_spec (k2 hdb) r hr
            · rw [same r hr b hdb, ← same (o, h1, none) List.mem_cons_self b hdb]
              exact k1
          cases hr with
          | head => exact ⟨rfl, rfl, m1, hk, fun k s hs => allG_get _ _ _ _ (.inl hs)⟩
          | tail _ hr =>
            obtain ⟨a1, a2⟩ := allOut_spec hall r hr
            exact ⟨a1, a2, m2 r hr, hk, fun k s hs => allG_get _ _ _ _ (.inr ⟨r, hr, hs⟩)⟩
        · cases e
section
variable {N : Nat} {P : Program} {σ : Sg} {w : World} {cs : List Frame}
/-- what holds of one of them holds of the merged -/
theorem FinR.merge {nx : Nat} {C : FC} {m : Machine} {o : Out} {hm : AH} {c : CP} {r : Fin1} (k : FinR P N nx σ C m cs w r) (h1 : r.1 = o) (h2 : r.2.2 = c) (h3 : r.2.1.next ≤ hm.next) (h4 : ∀ b ob, hm.t.get b = some ob → r.2.1.t.get b = some ob)
    (h5 : ∀ k s, r.2.1.g.get k = some s → ∃ s', hm.g.get k = some s' ∧ ∀ x ∈ s, x ∈ s') : FinR P N nx σ C m cs w (o, hm, c) := by
  obtain ⟨τ, w', hu, H, hb, hn, ho⟩ := k
  refine ⟨τ, w', hu, ⟨fun b ob cb d n a s => H.obj b ob cb d n (h4 _ _ a) s, fun b hb => H.fresh b (Nat.le_trans h3 hb), ?_, H.low, ⟨Nat.le_trans H.big.1 h3, H.big.2⟩, fun b ob a hlt => H.nc b ob (h4 _ _ a) hlt⟩, hb, Nat.le_trans hn h3, ?_⟩
  · intro b b' o1 o2 cb d n d' n' a a' s s' ne
    obtain ⟨k, k', l, e1, e2, e3, e4, e5, e6, e7⟩ := H.sep b b' o1 o2 cb d n d' n' (h4 _ _ a) (h4 _ _ a') s s' ne
    obtain ⟨l', f1, f2⟩ := h5 _ _ e4
    exact ⟨k, k', l', e1, e2, e3, f1, f2 _ e5, f2 _ e6, e7⟩
  · rw [h1, h2] at ho
    exact ho
end
end Go.Ex

/- Functions of which more is known than their text: their calls. Conditions: the tables are the program's. -/
namespace Go.Ex
open Go.RowKit (Below)
section
variable {N : Nat} {P : Program} {G : Gl} {σ : Sg} {h : AH} {w w' : World}

/-- new blocks alone -/
theorem HR.grow (H : HR N σ h w) (hb : Below w.heap.size w w') : HR N σ h w' :=
  ⟨fun b o cb d n a s => (H.obj b o cb d n a s).world (hb.block cb (H.obj b o cb d n a s).lt), H.fresh, H.sep, H.low, ⟨H.big.1, Nat.le_trans H.big.2 hb.size⟩, H.nc⟩
theorem load_get {b off n : Nat} {l : List SV} (e : h.load b off n = some l) : l.length = n ∧ ∀ (i : Nat) (v : SV), l[i]? = some v → h.load1 b (off + i) = some v := by
  unfold AH.load at e
  split at e
  · rename_i k hb
    split at e
    · rename_i hle
      have hle' : off + n ≤ k.n := ble_true.1 hle
      obtain ⟨h1, h2⟩ := cellsOf_spec _ _ _ _ e
      refine ⟨h1, fun i v hv => ?_⟩
      have hi : i < l.length := (List.getElem?_eq_some_iff.1 hv).1
      unfold AH.load1
      rw [hb]
      have : Nat.blt (off + i) k.n = true := blt_true.2 (by omega)
      simp only [this]
      exact h2 i v hv
    · cases e
  · cases e
theorem bytesN_spec : ∀ {l : List SV} {bs : List Nat}, bytesN l = some bs → bs.length = l.length ∧ (∀ x ∈ bs, x < 256) ∧ ∀ (i x : Nat), bs[i]? = some x → l[i]? = some (.int .u8 (.ofNat x))
  | [], bs, e => by simp only [bytesN] at e; cases e; exact ⟨rfl, fun x hx => (by cases hx), fun i x hx => (by simp at hx)⟩
  | v :: r, bs, e => by
    unfold bytesN at e
    split at e
    · rename_i heq; cases heq
    · rename_i n r' heq
      cases heq
      split at e
      · rename_i l hlt hr
        cases e
        obtain ⟨h1, h2, h3⟩ := bytesN_spec hr
        refine ⟨by simp [h1], fun x hx => ?_, fun i x hx => ?_⟩
        · cases hx with
          | head => exact blt_true.1 hlt
          | tail _ hx => exact h2 x hx
        · cases i with
          | zero => simp at hx; subst hx; rfl
          | succ i => simpa using h3 i x (by simpa using hx)
      · cases e
    · cases e
theorem sliceN_spec (H : HR N σ h w) {v : SV} {y : Value} {bs : List Nat} (hv : VR σ v y) (e : sliceN v h = some bs) :
    (∀ x ∈ bs, x < 256) ∧ bs.length ≤ 1073741824 ∧ ∃ a cap, y = .slice a bs.length cap ∧ BytesAt w a bs := by
  unfold sliceN at e
  split at e
  · cases e
    simp only [VR] at hv
    exact ⟨fun x hx => (by cases hx), by simp, none, 0, hv, .inl rfl⟩
  · rename_i b off len cap sz ex
    split at e
    · rename_i l hsz hlen hl
      obtain ⟨h1, h2, h3⟩ := bytesN_spec e
      obtain ⟨l1, l2⟩ := load_get hl
      simp only [VR] at hv
      obtain ⟨cb, d, n, a, c, hs, hd, rfl, q1, q2, q3, q4, q5⟩ := hv
      have hbl : bs.length = len := h1.trans l1
      refine ⟨h2, by rw [hbl]; exact ble_true.1 hlen, some a, c, by rw [hbl], ?_⟩
      rcases q4 with rfl | hc
      · refine .inr ⟨cb, off - d, rfl, fun i x hx => ?_⟩
        have h4 := l2 i _ (h3 i x hx)
        obtain ⟨y', y1, y2⟩ := H.load1 hs h4
        simp only [VR] at y2
        subst y2
        have : off + i - d = off - d + i := by omega
        rw [this] at y1
        exact y1
      · refine .inl (List.length_eq_zero_iff.1 (by omega))
    · cases e
  · cases e

theorem pure_ok (K : GlOk P G) {f : FuncId} {x : PF} {args : List SV} {l : List Fin1} (hx : G.pur f = some x) (e : runPure x args h = .ok l) :
    ∃ fn body, G.fn f = some fn ∧ fn.body = some body ∧ ∀ N σ w L cs, Glob σ → HR N σ h w → VRL σ args L.toList →
      ∃ r ∈ l, FinR P N h.next σ ⟨f, 0, .normal, none⟩ (lone (Frame.enter P f L .normal) cs w) cs w r := by
  obtain ⟨⟨fn, body, hfn, hbody⟩, hok⟩ := K.pur f x hx
  refine ⟨fn, body, hfn, hbody, fun N σ w L cs hg H hL => ?_⟩
  unfold runPure at e
  split at e
  · rename_i v hv
    cases e
    refine ⟨_, List.mem_cons_self, ?_⟩
    cases x with
    | sumMore =>
      simp only [pureSV] at hv
      unfold pSum at hv
      split at hv
      · rename_i s sl
        split at hv
        · rename_i bs hlt hsl
          rw [T.forceN_eq] at hv
          cases hv
          obtain ⟨y0, y1, rfl, hy0, hy1⟩ := vrl2 hL
          simp only [VR] at hy0
          subst hy0
          obtain ⟨b1, b2, a, cap, rfl, b3⟩ := sliceN_spec H hy1 hsl
          obtain ⟨en, w', fr, ⟨hen, hb⟩, hcomes, hfrf, hleave⟩ := hok s a cap bs w (blt_true.1 hlt) b1 b2 b3 cs
          subst hen
          obtain ⟨m1, m2, m3, f', m4, m5⟩ := hleave
          exact ⟨σ, w', Sg.up_refl _ _, H.grow hb, hb.mono H.big.2, Nat.le_refl _, fr, _, cs, f', hcomes, m1, m2, m3, hfrf, m4, m5, (by simp only [VR]), rfl, rfl⟩
        · cases hv
      · cases hv
  · cases e
theorem pure_dirt {x : PF} {args : List SV} {l : List Fin1} (e : runPure x args h = .ok l) : ∀ r ∈ l, Dirt h r.2.1 := by
  unfold runPure at e
  split at e
  · cases e
    intro r hr
    rcases List.mem_singleton.1 hr with rfl
    exact Dirt.refl _
  · cases e
end
end Go.Ex

/- The executor is right: whatever the tape, the world behind a run is matched by one of its outcomes. Conditions: the tables are the program's, and mixed orders are followed. -/
namespace Go.Ex
open Go.RowKit (Below)
section
variable {P : Program} {G : Gl} {run : RunT}

def DirtyOk (run : RunT) : Prop := ∀ C k tm ds m h cp l, run C k tm ds m h cp = .ok l → ∀ r ∈ l, Dirt h r.2.1
def RestD (ih : Rest) : Prop := ∀ pr tm ds h cp l, ih pr tm ds h cp = .ok l → ∀ r ∈ l, Dirt h r.2.1
theorem joinM_mem {α : Type} {f : α → M} : ∀ {l : List α} {L : List Fin1}, joinM f l = .ok L → ∀ r ∈ L, ∃ x ∈ l, ∃ Lx, f x = .ok Lx ∧ r ∈ Lx
  | [], L, e, r, hr => by simp only [joinM] at e; cases e; cases hr
  | y :: l, L, e, r, hr => by
    simp only [joinM] at e
    split at e
    · cases e
    · rename_i a ha
      split at e
      · cases e
      · rename_i c hc
        cases e
        rcases List.mem_append.1 hr with hr | hr
        · exact ⟨y, List.mem_cons_self, a, ha, hr⟩
        · obtain ⟨x, hx, Lx, h1, h2⟩ := joinM_mem hc r hr
          exact ⟨x, List.mem_cons_of_mem _ hx, Lx, h1, h2⟩
theorem mergeM_ok {d0 : Option (List Nat)} {m : M} {L : List Fin1} (e : mergeM d0 m = .ok L) : ∃ l, m = .ok l ∧ mergeF d0 l = .ok L := by
  cases m with
  | error => cases e
  | ok l => exact ⟨l, rfl, e⟩
theorem enter_dirt (D : DirtyOk run) {f : FuncId} {args : List SV} {kind : CallKind} {h : AH} {cp : CP} {fn : Option Func} {l : List Fin1} (e : enterF run f args kind h cp fn = .ok l) : ∀ r ∈ l, Dirt h r.2.1 := by
  cases fn with
  | none => cases e
  | some fn =>
    simp only [enterF] at e
    cases hb : fn.body with
    | none => rw [hb] at e; cases e
    | some body => rw [hb] at e; exact D _ _ _ _ _ _ _ _ e
theorem runCall_dirt (D : DirtyOk run) {f : FuncId} {args : List SV} {h : AH} {l : List Fin1} (e : runCall G run f args h = .ok l) : ∀ r ∈ l, Dirt h r.2.1 := by
  unfold runCall at e
  split at e
  · exact pure_dirt e
  · split at e
    · exact enter_dirt D e
    · obtain ⟨l0, e1, e2⟩ := mergeM_ok e
      obtain ⟨o, hm, c, rfl, hdm, _⟩ := mergeF_spec (enter_dirt D e1) e2
      intro r hr
      rcases List.mem_singleton.1 hr with rfl
      exact hdm
theorem runRound_dirt (D : DirtyOk run) {l0 : Nat} {args : List SV} {h : AH} {l : List Fin1} (e : runRound G run l0 args h = .ok l) : ∀ r ∈ l, Dirt h r.2.1 := by
  unfold runRound at e
  split at e
  · unfold roundL at e
    split at e
    · exact D _ _ _ _ _ _ _ _ e
    · cases e
  · cases e
theorem set_dirt {ih : Rest} (I : RestD ih) {nt : Nat} {dst : Option Tmp} {v : SV} {pr : List Pr} {tm : T SV} {ds : List ADef} {h : AH} {cp : CP} {l : List Fin1} (e : doSet nt dst v ih pr tm ds h cp = .ok l) : ∀ r ∈ l, Dirt h r.2.1 := by
  obtain ⟨tm', _, e'⟩ := doSet_ok e
  exact I _ _ _ _ _ _ e'
theorem fin_dirt {ih : Rest} (I : RestD ih) {C : FC} {x : RI} {v : SV} {pr : List Pr} {tm : T SV} {ds : List ADef} {h : AH} {cp : CP} {l : List Fin1} (e : fin G C x ih pr tm ds v h cp = .ok l) : ∀ r ∈ l, Dirt h r.2.1 := by
  unfold fin at e
  split at e
  · exact set_dirt I e
  · cases e
theorem after_dirt (D : DirtyOk run) {ih : Rest} (I : RestD ih) {C : FC} {tmP : T SV} {x : RI} {pr : List Pr} {tm : T SV} {ds : List ADef} {cp : CP} {h : AH} {l ls : List Fin1} (hd : ∀ r ∈ ls, Dirt h r.2.1)
    (e : joinM (after G run C tmP x ih pr tm ds cp) ls = .ok l) : ∀ r ∈ l, Dirt h r.2.1 := by
  intro r hr
  obtain ⟨r1, hr1, Lx, e1, hx⟩ := joinM_mem e r hr
  refine (hd r1 hr1).trans ?_
  obtain ⟨o, h1, c1⟩ := r1
  cases o with
  | ret v => simp only [after] at e1; exact fin_dirt I e1 r hx
  | panic c => simp only [after] at e1; exact D _ _ _ _ _ _ _ _ e1 r hx
theorem act_dirt (D : DirtyOk run) {ih : Rest} (I : RestD ih) {C : FC} {tmP : T SV} {x : RI} {pr : List Pr} {tm : T SV} {ds : List ADef} {h : AH} {cp : CP} {a : Act} {l : List Fin1} (ha : DirtA h a) (e : doAct G run C tmP x ih pr tm ds h cp a = .ok l) : ∀ r ∈ l, Dirt h r.2.1 := by
  cases a <;> simp only [doAct] at e
  case val v h' => exact fun r hr => Dirt.trans ha (fin_dirt I e r hr)
  case alts ls =>
    intro r hr
    obtain ⟨y, hy, Lx, e1, hx⟩ := joinM_mem e r hr
    exact Dirt.trans (ha _ _ hy) (fin_dirt I e1 r hx)
  case call f args h' =>
    obtain ⟨ls, e1, e2⟩ := bindJ_ok e
    exact after_dirt D I (fun r hr => Dirt.trans ha (runCall_dirt D e1 r hr)) e2
  case round l0 args =>
    obtain ⟨ls, e1, e2⟩ := bindJ_ok e
    exact after_dirt D I (fun r hr => runRound_dirt D e1 r hr) e2
  case defer d =>
    unfold doDefer at e
    split at e
    · exact fin_dirt I e
    · cases e
  case recover =>
    unfold doRecover at e
    split at e
    · exact fin_dirt I e
    · exact fin_dirt I e
    · cases e
  case panic v => exact D _ _ _ _ _ _ _ _ e
  case fail => cases e
theorem regDo_dirt (D : DirtyOk run) {ih : Rest} (I : RestD ih) {C : FC} {tmP : T SV} {x : RI} {c : Cls} : RestD (regDo G c run C tmP x ih) := by
  intro pr tm ds h cp l e
  cases c <;> simp only [regDo] at e
  · unfold doN at e
    split at e
    · exact set_dirt I e
    · cases e
  · unfold doR at e
    split at e
    · exact set_dirt I e
    · cases e
  · unfold doA at e
    split at e
    · cases e
    · split at e
      · rename_i v h' hop
        have hd := opE_dirt (G := G) (tm := tm) (h := h) x.o.op
        rw [hop] at hd
        unfold doA2 at e
        split at e
        · exact fun r hr => Dirt.trans hd (set_dirt I e r hr)
        · cases e
      · cases e
  · exact act_dirt D I (opE_dirt _) e
theorem regRun_dirt (D : DirtyOk run) {C : FC} {k : List AItem} {tmP : T SV} : ∀ (L : List RI), RestD (regRun G run C k tmP L)
  | [] => fun pr tm ds h cp l e => D _ _ _ _ _ _ _ _ e
  | x :: L => by
    intro pr tm ds h cp l e
    have e1 : regOp G run C tmP x (regRun G run C k tmP L) pr tm ds h cp = .ok l := e
    rcases regOp_ok e1 with ⟨_, e2⟩ | ⟨_, e2⟩
    · exact regDo_dirt D (regRun_dirt D L) _ _ _ _ _ _ e2
    · exact set_dirt (regRun_dirt D L) e2
theorem leave_dirt (D : DirtyOk run) {C : FC} {tm : T SV} {ds : List ADef} {h : AH} {cp : CP} {j : Option Code} {l : List Fin1} (e : leaveA run C tm ds h cp j = .ok l) : ∀ r ∈ l, Dirt h r.2.1 := by
  unfold leaveA at e
  split at e
  · unfold leaveR at e
    split at e
    · exact D _ _ _ _ _ _ _ _ e
    · exact D _ _ _ _ _ _ _ _ e
    · cases e
  · split at e
    · unfold leaveL at e
      cases e
      intro r hr
      rcases List.mem_singleton.1 hr with rfl
      exact Dirt.put _ _ _
    · cases e
theorem rf_dirt (D : DirtyOk run) {C : FC} {k : List AItem} {tm : T SV} {ds : List ADef} {h : AH} {cp : CP} {l : List Fin1} {ps : Array Tmp} {as bd : Code} {fn : Fn} {first cap : List SV} {r0 : Nat}
    (e : rfLoop G ps as bd run k C tm cp fn first cap r0 h ds = .ok l) : ∀ r ∈ l, Dirt h r.2.1 := by
  unfold rfLoop at e
  have hd := invokeF_dirt (G := G) (h := h.new (.loop ⟨.ready, none, C.fn, tm, C.nt, ps.toList, as, bd, r0⟩)) fn cap (first ++ [.func (.yield h.next) [] []])
  unfold rfCall at e
  split at e
  · rename_i f args h' ha
    rw [ha] at hd
    obtain ⟨ls, e1, e2⟩ := bindJ_ok e
    intro r hr
    obtain ⟨r1, hr1, Lx, e3, hx⟩ := joinM_mem e2 r hr
    refine (Dirt.new h _).trans (Dirt.trans hd ((runCall_dirt D e1 r1 hr1).trans ?_))
    obtain ⟨o, h1, c1⟩ := r1
    cases o with
    | ret v => simp only [rfAfter] at e3; exact D _ _ _ _ _ _ _ _ e3 r hx
    | panic c => simp only [rfAfter] at e3; cases e3
  · cases e
theorem code_dirt (D : DirtyOk run) (c : Code) {C : FC} {k : List AItem} {tm : T SV} {ds : List ADef} {h : AH} {cp : CP} {l : List Fin1} (e : codeRun G c run k C tm ds h cp = .ok l) : ∀ r ∈ l, Dirt h r.2.1 := by
  cases c <;> simp only [codeRun] at e
  case ret => exact leave_dirt D e
  case skip => exact D _ _ _ _ _ _ _ _ e
  case seq x y => exact D _ _ _ _ _ _ _ _ e
  case cond c x y =>
    unfold cCond at e
    split at e
    · exact D _ _ _ _ _ _ _ _ e
    · exact D _ _ _ _ _ _ _ _ e
    · cases e
  case block id body => exact D _ _ _ _ _ _ _ _ e
  case loop body => exact D _ _ _ _ _ _ _ _ e
  case exit id =>
    unfold cExit at e
    split at e
    · exact D _ _ _ _ _ _ _ _ e
    · exact leave_dirt D e
  case region id ops draw =>
    unfold cRegion at e
    split at e
    · exact regRun_dirt D _ _ _ _ _ _ _ e
    · cases e
  case rangeFunc f params assign body =>
    unfold cRF at e
    split at e
    · unfold rfIn at e
      split at e
      · exact fun r hr => (Dirt.new h _).trans (rf_dirt D e r hr)
      · split at e
        · exact rf_dirt D e
        · cases e
    · cases e
  all_goals cases e
theorem step_dirt (D : DirtyOk run) : DirtyOk (stepA G run) := by
  intro C k tm ds m h cp l e
  have other : m ≠ .run → stepEnd G run C tm m h cp ds = .ok l → ∀ r ∈ l, Dirt h r.2.1 := by
    intro _ e
    cases ds with
    | nil =>
      simp only [stepEnd] at e
      cases m with
      | panicking c =>
        simp only [endF] at e
        cases e
        intro r hr
        rcases List.mem_singleton.1 hr with rfl
        exact Dirt.refl _
      | _ =>
        simp only [endF] at e
        split at e
        · cases hfn : G.fn C.fn with
          | none => rw [hfn] at e; cases e
          | some fn =>
            rw [hfn] at e
            simp only [retF] at e
            split at e
            · cases e
              intro r hr
              rcases List.mem_singleton.1 hr with rfl
              exact Dirt.refl _
            · cases e
        · cases e
    | cons d ds =>
      simp only [stepEnd] at e
      unfold dfRun at e
      split at e
      · split at e
        · exact fun r hr => (Dirt.put h _ _).trans (D _ _ _ _ _ _ _ _ e r hr)
        · cases e
      · rename_i fn cap _
        have hd := invokeF_dirt (G := G) (h := h) fn cap d.args
        unfold dfCall at e
        split at e
        · rename_i f args h' ha
          rw [ha] at hd
          obtain ⟨ls, e1, e2⟩ := bindJ_ok e
          intro r hr
          obtain ⟨r1, hr1, Lx, e3, hx⟩ := joinM_mem e2 r hr
          refine Dirt.trans hd ((enter_dirt D e1 r1 hr1).trans ?_)
          obtain ⟨o, h1, c1⟩ := r1
          cases o with
          | ret v => simp only [dfAfter] at e3; exact D _ _ _ _ _ _ _ _ e3 r hx
          | panic c => simp only [dfAfter] at e3; cases e3
        · rename_i v h' ha
          rw [ha] at hd
          exact fun r hr => Dirt.trans hd (D _ _ _ _ _ _ _ _ e r hr)
        · cases e
  cases m with
  | run =>
    have e' : stepRun G run C tm ds h cp k = .ok l := e
    cases k with
    | nil => exact leave_dirt D e'
    | cons it k =>
      have e2 : itemRun G it run k C tm ds h cp = .ok l := e'
      cases it <;> simp only [itemRun] at e2
      case code c => exact code_dirt D c e2
      case inBlock id => exact D _ _ _ _ _ _ _ _ e2
      case inLoop body => exact D _ _ _ _ _ _ _ _ e2
      case inRangeFunc => cases e2
      case endRangeFunc l0 =>
        unfold iEnd at e2
        split at e2
        · unfold endL at e2
          split at e2
          · cases e2
          · exact fun r hr => (Dirt.put h _ _).trans (D _ _ _ _ _ _ _ _ e2 r hr)
        · cases e2
      case beginRound =>
        unfold iBeg at e2
        split at e2
        · split at e2
          · unfold begL at e2
            split at e2
            · exact fun r hr => (Dirt.put h _ _).trans (D _ _ _ _ _ _ _ _ e2 r hr)
            · cases e2
          · cases e2
        · cases e2
  | returning => exact other (by simp) e
  | panicking c => exact other (by simp) e
theorem dirtyOk : ∀ n, DirtyOk (runA G n)
  | 0 => fun _ _ _ _ _ _ _ _ e => by cases e
  | n + 1 => step_dirt (dirtyOk n)

theorem callOk_of (K : GlOk P G) (S : Sound P G run) (D : DirtyOk run) : CallOk P G run := by
  intro f args h l e
  unfold runCall at e
  split at e
  · rename_i x hx
    exact pure_ok K hx e
  · split at e
    · exact call0_ok K S e
    · obtain ⟨l0, e1, e2⟩ := mergeM_ok e
      obtain ⟨o, hm, c, rfl, _, hall⟩ := mergeF_spec (enter_dirt D e1) e2
      obtain ⟨fn, body, h1, h2, h3⟩ := call0_ok K S e1
      refine ⟨fn, body, h1, h2, fun N σ w L cs hg H hL => ?_⟩
      obtain ⟨r, hr, hF⟩ := h3 N σ w L cs hg (H.note (some [])) hL
      obtain ⟨a1, a2, a3, a4, a5⟩ := hall r hr
      exact ⟨_, List.mem_cons_self, hF.merge a1 a2 a3 a4 a5⟩

theorem step_sound (hm : P.follows .mixedOrders = true) (K : GlOk P G) (S : Sound P G run) (D : DirtyOk run) : Sound P G (stepA G run) := by
  intro C k tm ds m h cp l e N σ w fr cs hg H F hc
  have Cl := callOk_of K S D
  have Rd := round_ok K S
  cases m with
  | run => exact stepRun_ok hm K S Cl Rd e hg H F hc
  | returning => exact stepEnd_ok K S (by simp) e hg H F hc
  | panicking c => exact stepEnd_ok K S (by simp) e hg H F hc
theorem sound (hm : P.follows .mixedOrders = true) (K : GlOk P G) : ∀ n, Sound P G (runA G n)
  | 0 => fun _ _ _ _ _ _ _ _ e => by cases e
  | n + 1 => step_sound hm K (sound hm K n) (dirtyOk n)
end
end Go.Ex

/- From a run of the executor to a call of the program's. Conditions: the tables are the program's, and mixed orders are followed. -/
namespace Go.Ex
open Go.RowKit (Below)

/-- every outcome hands back a value that passes the test -/
def retsB (p : SV → Bool) : List Fin1 → Bool
  | [] => true
  | (.ret v, _, _) :: r => match p v with
    | true => retsB p r
    | false => false
  | _ => false
def retsM (p : SV → Bool) : M → Bool
  | .ok l => retsB p l
  | .error _ => false
theorem retsB_spec {p : SV → Bool} : ∀ {l : List Fin1}, retsB p l = true → ∀ r ∈ l, ∃ v, r.1 = .ret v ∧ p v = true
  | [], _, r, hr => by cases hr
  | (.ret v, h, c) :: l, e, r, hr => by
    simp only [retsB] at e
    split at e
    · rename_i hp
      cases hr with
      | head => exact ⟨v, rfl, hp⟩
      | tail _ hr => exact retsB_spec e r hr
    · cases e
  | (.panic c, h, cp) :: l, e, r, hr => by simp only [retsB] at e; cases e
theorem calls_of_run {P : Program} {G : Gl} (hm : P.follows .mixedOrders = true) (K : GlOk P G) {n f : Nat} {h : AH} {p : SV → Bool} (e : retsM p (enterF (runA G n) f [] .normal h none (G.fn f)) = true) {σ : Sg} {W : World}
    (hg : Glob σ) (H : HR W.heap.size σ h W) : Calls P f #[] W fun e w' => (∃ v y τ, p v = true ∧ e = .returned y ∧ VR τ v y) ∧ Below W.heap.size W w' := by
  intro cs
  cases hrun : enterF (runA G n) f [] .normal h none (G.fn f) with
  | error s => rw [hrun] at e; cases e
  | ok l =>
    rw [hrun] at e
    obtain ⟨fn, body, h1, h2, h3⟩ := call0_ok K (sound hm K n) hrun
    obtain ⟨r, hr, τ, w', hu, H', hb, hn, ho⟩ := h3 W.heap.size σ W #[] cs hg H rfl
    obtain ⟨v, hv, hp⟩ := retsB_spec e r hr
    obtain ⟨o, h', c⟩ := r
    simp only at hv
    subst hv
    obtain ⟨fr, y, cs', f', q1, q2, q3, q4, q5, q6, q7, q8, q9⟩ := ho
    obtain ⟨rfl, _⟩ := q9
    exact ⟨.returned y, w', fr, ⟨⟨v, y, τ, hp, rfl, q8⟩, hb⟩, q1, q5, q2, q3, q4, f', q6, q7⟩

/-- nothing is known -/
def sg0 : Sg := fun b => if b < base then some (b, 0, 0) else none
theorem glob0 : Glob sg0 := fun g hg => ⟨0, by simp [sg0, hg]⟩
theorem hr0 (W : World) : HR W.heap.size sg0 ⟨base, .e, .e, none⟩ W := by
  refine ⟨fun b o cb d n a _ => (by rw [T.get_e] at a; cases a), fun b hb => ?_, fun b b' o o' cb d n d' n' a => (by rw [T.get_e] at a; cases a), fun b cb d n s hb => ?_, ⟨Nat.le_refl _, Nat.le_refl _⟩, fun b o a => (by rw [T.get_e] at a; cases a)⟩
  · have hb' : base ≤ b := hb
    simp only [sg0]
    rw [if_neg (by omega)]
  · simp only [sg0] at s
    rw [if_neg (by omega)] at s
    cases s
/-- one table of the package's is known -/
def sg1 (g n : Nat) : Sg := fun b => if b < base then some (b, 0, if b = g then n else 0) else none
theorem glob1 (g n : Nat) : Glob (sg1 g n) := fun b hb => ⟨if b = g then n else 0, by simp [sg1, hb]⟩
def tabSV (k : IntKind) (zs : List Nat) : List SV := zs.map fun z => .int k (.ofNat z)
noncomputable def ahTab (g te : Nat) (k : IntKind) (zs : List Nat) : AH := ⟨base, T.set .e g (.cells ⟨fillT .e 0 (tabSV k zs), zs.length, te, g⟩), .e, none⟩
theorem hrTab {W : World} {g te ty : Nat} {k : IntKind} {zs : List Nat} {C : Array Value} (hg : g < base) (hw : W.heap[g]? = some (.cells C ty (0, 0))) (hlen : zs.length ≤ C.size)
    (hz : ∀ (i z : Nat), zs[i]? = some z → C[i]? = some (.int k (.ofNat z))) : HR W.heap.size (sg1 g C.size) (ahTab g te k zs) W := by
  have hget : ∀ b o, (ahTab g te k zs).t.get b = some o → b = g ∧ o = .cells ⟨fillT .e 0 (tabSV k zs), zs.length, te, g⟩ := by
    intro b o a
    unfold ahTab at a
    simp only [T.get_set] at a
    split at a
    · rename_i hb
      cases a
      exact ⟨hb, rfl⟩
    · rw [T.get_e] at a; cases a
  refine ⟨fun b o cb d n a s => ?_, fun b hb => ?_, fun b b' o o' cb d n d' n' a a' _ _ ne => ?_, fun b cb d n s hb => ?_, ⟨Nat.le_refl _, Nat.le_refl _⟩, fun b o a _ => ?_⟩
  · obtain ⟨rfl, rfl⟩ := hget b o a
    simp only [sg1, if_pos hg, if_pos] at s
    cases s
    refine ⟨C, ty, (0, 0), hw, rfl, by simpa using hlen, .inl rfl, fun j v hj hv => ⟨Nat.zero_le _, ?_⟩⟩
    simp only at hj hv
    rw [fillT_get, if_pos (by simp [tabSV]; omega)] at hv
    simp only [tabSV, Nat.sub_zero, List.getElem?_map, Option.map_eq_some_iff] at hv
    obtain ⟨z, hz1, rfl⟩ := hv
    exact ⟨_, by rw [Nat.sub_zero]; exact hz j z hz1, by simp only [VR]⟩
  · have hb' : base ≤ b := hb
    simp only [sg1]
    rw [if_neg (by omega)]
  · exact absurd ((hget b o a).1.trans (hget b' o' a').1.symm) ne
  · simp only [sg1] at s
    rw [if_neg (by omega)] at s
    cases s
  · exact ⟨_, (hget b o a).2⟩

/-- true -/
def isT : SV → Bool
  | .bool b => b
  | _ => false
theorem isT_ok {τ : Sg} {v : SV} {y : Value} (h : isT v = true) (hv : VR τ v y) : y = .bool true := by
  cases v <;> simp only [isT] at h <;> first | (cases h; done) | skip
  subst h
  exact hv
/-- integers in a row -/
def isInts (k : IntKind) (zs : List Nat) (v : SV) : Bool := SV.beq v (.agg (tabSV k zs))
theorem isInts_ok {τ : Sg} {k : IntKind} {v : SV} {y : Value} {zs : List Nat} (h : isInts k zs v = true) (hv : VR τ v y) : y = .agg (zs.map fun z => Value.int k (.ofNat z)).toArray := by
  have := SV.beq_ok _ _ h
  subst this
  simp only [VR] at hv
  obtain ⟨A, rfl, hA⟩ := hv
  congr 1
  have key : ∀ (zs : List Nat) (L : List Value), VRL τ (tabSV k zs) L → L = zs.map fun z => Value.int k (.ofNat z) := by
    intro zs
    induction zs with
    | nil => intro L h; exact h
    | cons z zs ih =>
      intro L h
      obtain ⟨y, s, rfl, h1, h2⟩ := h
      have h1' : y = .int k (.ofNat z) := h1
      rw [h1', ih s h2]
      rfl
  have := key zs A.toList hA
  rw [← this]

/-! ### tables -/
noncomputable def build {α : Type} (l : List (Nat × α)) : T α := List.rec .e (fun p _ ih => ih.set p.1 p.2) l
theorem build_get {α : Type} {l : List (Nat × α)} {k : Nat} {v : α} (h : (build l).get k = some v) : (k, v) ∈ l := by
  induction l with
  | nil => have : (T.e : T α).get k = some v := h; rw [T.get_e] at this; cases this
  | cons p l ih =>
    have h' : ((build l).set p.1 p.2).get k = some v := h
    rw [T.get_set] at h'
    split at h'
    · rename_i hk
      cases h'
      rw [hk]
      exact List.mem_cons_self
    · exact List.mem_cons_of_mem _ (ih h')
noncomputable def utI (inf : T TypeInfo) (t : TypeId) : Option TypeDesc := match inf.get t with
  | some i => (match i.desc with
    | .named _ u => (match inf.get u with | some j => some j.desc | none => none)
    | d => some d)
  | none => none
theorem utI_ok {P : Program} {inf : T TypeInfo} (h : ∀ t i, inf.get t = some i → P.info? t = some i) {t : TypeId} {d : TypeDesc} (e : utI inf t = some d) : P.underlying t = some d := by
  unfold utI at e
  cases hi : inf.get t with
  | none => rw [hi] at e; cases e
  | some i =>
    rw [hi] at e
    simp only at e
    have h1 := h t i hi
    obtain ⟨desc, s1, s2, s3, s4, s5, s6, s7, s8, s9⟩ := i
    unfold Program.underlying
    rw [h1]
    cases desc <;> simp only at e ⊢ <;> first | exact e | skip
    rename_i nm u
    cases hj : inf.get u with
    | none => rw [hj] at e; cases e
    | some j =>
      rw [hj] at e
      cases e
      rw [h u j hj]
      rfl
theorem glOk_of {P : Program} {ut : TypeId → Option TypeDesc} {inf : TypeId → Option TypeInfo} {fn : FuncId → Option Func} {peq : TypeId → Bool} {ext : FuncId → Option Ext} {mg : FuncId → Bool} {pur : FuncId → Option PF}
    (h1 : ∀ t d, ut t = some d → P.underlying t = some d) (h2 : ∀ t i, inf t = some i → P.info? t = some i) (h3 : ∀ f g, fn f = some g → P.funcs[f]? = some g) (h4 : ∀ f g, fn f = some g → (g.name == "runtime.NumGoroutine") = false)
    (h5 : ∀ f x, ext f = some x → ∃ fn e, P.funcs[f]? = some fn ∧ (fn.name == "runtime.NumGoroutine") = false ∧ fn.body = none ∧ Extern.findNext fn = none ∧ Extern.find fn = some e ∧ ExtOk x e)
    (h6 : ∀ t, peq t = true → P.stoodInHeld t = false ∧ P.eqGuardType P.depth t = false) (h7 : ∀ f x, pur f = some x → (∃ g body, fn f = some g ∧ g.body = some body) ∧ PureOk P f x) :
    GlOk P { ut := ut, inf := inf, fn := fn, peq := peq, ext := ext, mg := mg, pur := pur } := ⟨h1, h2, h3, h4, h5, h6, h7⟩
end Go.Ex
