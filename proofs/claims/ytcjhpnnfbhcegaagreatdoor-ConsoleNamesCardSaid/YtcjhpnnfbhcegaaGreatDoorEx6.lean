/- Frames, single steps, regions whose order is not drawn. Conditions: the tables are the program's; deeper runs are right. -/
import Derived.Test.YtcjhpnnfbhcegaaGreatDoorEx5
import Derived.AtR
import Derived.Defers
import Derived.Orders
/- An operation looks at its own operands alone; which look at the heap. Conditions: none; laws of the executor. -/
namespace Go.Ex
section
variable {G : Gl} {tm tm' : T SV} {h h' : AH}

def Agree (tm tm' : T SV) (l : List Operand) : Prop := ∀ d, usesL d l = true → tm.get d = tm'.get d
theorem usesO_tmp (t d : Tmp) : usesO (.tmp t) d = true ↔ t = d := beq_true
theorem usesL_cons (d : Tmp) (x : Operand) (r : List Operand) : usesL d (x :: r) = true ↔ usesO x d = true ∨ usesL d r = true := by
  simp only [usesL]
  cases usesO x d <;> simp
theorem usesL_append (d : Tmp) : ∀ (l m : List Operand), usesL d (l ++ m) = true ↔ usesL d l = true ∨ usesL d m = true
  | [], m => by simp [usesL]
  | x :: l, m => by rw [List.cons_append, usesL_cons, usesL_append d l m, usesL_cons, or_assoc]
theorem Agree.head {x : Operand} {r : List Operand} (h : Agree tm tm' (x :: r)) : evalQ x tm = evalQ x tm' := by
  cases x with
  | tmp t => exact h t ((usesL_cons _ _ _).2 (.inl ((usesO_tmp t t).2 rfl)))
  | _ => rfl
theorem Agree.tail {x : Operand} {r : List Operand} (h : Agree tm tm' (x :: r)) : Agree tm tm' r := fun d hd => h d ((usesL_cons _ _ _).2 (.inr hd))
theorem Agree.left {l m : List Operand} (h : Agree tm tm' (l ++ m)) : Agree tm tm' l := fun d hd => h d ((usesL_append _ _ _).2 (.inl hd))
theorem Agree.right {l m : List Operand} (h : Agree tm tm' (l ++ m)) : Agree tm tm' m := fun d hd => h d ((usesL_append _ _ _).2 (.inr hd))
theorem Agree.evalL : ∀ {l : List Operand}, Agree tm tm' l → evalL tm l = evalL tm' l
  | [], _ => rfl
  | x :: r, h => by
    have h1 : evalO tm x = evalO tm' x := h.head
    simp only [Go.Ex.evalL, h1, Agree.evalL h.tail]
theorem Agree.evalP : ∀ {l : List (Nat × Operand)}, Agree tm tm' (l.map (·.2)) → evalP tm l = evalP tm' l
  | [], _ => rfl
  | (i, x) :: r, h => by
    have h1 : evalO tm x = evalO tm' x := Agree.head h
    simp only [Go.Ex.evalP, h1, Agree.evalP (Agree.tail h)]
theorem Agree.optO {x : Option Operand} (h : Agree tm tm' x.toList) : optO tm x = optO tm' x := by
  cases x with
  | none => rfl
  | some x => simp only [Go.Ex.optO, Agree.head (r := []) h]

theorem nBuild_congr {t : TypeId} {ps : Array (Nat × Operand)} (a : Agree tm tm' (ps.toList.map (·.2))) : nBuild G t ps tm h = nBuild G t ps tm' h := by
  simp only [nBuild, a.evalP]
theorem opN_congr {o : Op} (a : Agree tm tm' o.operands.toList) : opN G o tm h = opN G o tm' h := by
  cases o <;> simp only [opN] <;> simp only [Op.operands] at a
  case move x => exact a.head
  case assign x => exact a.head
  case pick c x y =>
    have h1 := a.head; have h2 := a.tail.head; have h3 := a.tail.tail.head
    simp only [nPick, h1, h2, h3]
  case build t ps => exact nBuild_congr (by simpa using a)
  case load t x => simp only [nLoad, a.head]
  case nilCheck x => simp only [nNil, a.head]
  case binOp op t x y _ =>
    have h1 := a.head; have h2 := a.tail.head
    simp only [nBin, h1, h2]
  case unOp op t x => simp only [nUn, a.head]
  case convert s d x => simp only [nConv, a.head]
  case makeInterface t x => simp only [nMkI, a.head]
  case makeFunc fn first cap =>
    rw [Array.toList_append] at a
    have h1 := a.left.evalL; have h2 := a.right.evalL
    cases fn <;> simp only [nMkF, mkFn, h1, h2]
  case slice t x lo hi mx =>
    simp only [Array.toList_append, Option.toList_toArray] at a
    have h1 : evalQ x tm = evalQ x tm' := Agree.head (r := []) a.left.left.left
    have h2 := Agree.optO a.left.left.right
    have h3 := Agree.optO a.left.right
    have h4 := Agree.optO a.right
    simp only [nSlice, h1, h2, h3, h4]
  case fieldAddr s x f => simp only [nFAddr, a.head]
  case field t x f => simp only [nField, a.head]
  case indexAddr t x ix =>
    have h1 := a.head; have h2 := a.tail.head
    simp only [nIAddr, h1, h2]
  case index t x ix =>
    have h1 := a.head; have h2 := a.tail.head
    simp only [nIndex, h1, h2]
  case lookup t x k ok =>
    have h1 := a.head; have h2 := a.tail.head
    simp only [nLook, h1, h2]
  case entry it => simp only [nEntry, a.head]
  case typeAssert x xt at_ ok => simp only [nTA, a.head]
  case extract t ix => simp only [nExt, a.head]
  case call c =>
    unfold nCall
    split
    · rename_i b hb
      simp only [Call.operands, hb, Array.toList_append] at a
      rw [a.right.evalL]
    · rfl
  all_goals rfl
theorem opE_congr {o : Op} (a : Agree tm tm' o.operands.toList) : opE G o tm h = opE G o tm' h := by
  have hcall : ∀ c : Call, Agree tm tm' c.operands.toList → eCall G c tm h = eCall G c tm' h ∧ deferO tm c = deferO tm' c := by
    intro c a
    simp only [Call.operands, Array.toList_append] at a
    have h1 := a.right.evalL
    refine ⟨?_, ?_⟩
    · simp only [eCall, h1]
      split
      · rfl
      · unfold callO
        split
        · rfl
        · rename_i r name hc
          rw [hc] at a
          rw [Agree.head (r := []) a.left]
        · rename_i f hc
          rw [hc] at a
          rw [Agree.head (r := []) a.left]
    · simp only [deferO, h1]
      split
      · rfl
      · split
        · rename_i f hc
          rw [hc] at a
          rw [Agree.head (r := []) a.left]
        · rfl
  cases o <;> simp only [opE] <;> simp only [Op.operands] at a
  case alloc => rfl
  case box e x => simp only [eBox, a.head]
  case buildSlice t n ps =>
    have h1 : Agree tm tm' (ps.toList.map (·.2)) := by simpa using a
    simp only [eBSl, h1.evalP]
  case store t x y =>
    have h1 := a.head; have h2 := a.tail.head
    simp only [eStore, h1, h2]
  case convert s d x => simp only [eConv, a.head]
  case makeMap t r =>
    rw [Option.toList_toArray] at a
    cases r with
    | none => rfl
    | some r => simp only [eMkM, Agree.head (r := []) a]
  case makeSlice t l c =>
    have h1 := a.head; have h2 := a.tail.head
    simp only [eMkS, h1, h2]
  case mapUpdate t m k x =>
    have h1 := a.head; have h2 := a.tail.head; have h3 := a.tail.tail.head
    simp only [eMup, h1, h2, h3]
  case insert t m k x =>
    have h1 := a.head; have h2 := a.tail.head; have h3 := a.tail.tail.head
    simp only [eMup, h1, h2, h3]
  case mapEntry t m k =>
    have h1 := a.head; have h2 := a.tail.head
    simp only [eMent, h1, h2]
  case entryStore t m s x =>
    have h1 := a.head; have h2 := a.tail.head; have h3 := a.tail.tail.head
    simp only [eEst, h1, h2, h3]
  case range t x => simp only [eRange, a.head]
  case next it s => simp only [eNext, a.head]
  case call c => exact (hcall c a).1
  case defer c => simp only [eDefer, (hcall c a).2]
  case panic x => simp only [ePanic, a.head]
  all_goals rfl

/-- those that are said not to look at the heap do not -/
theorem opN_heap {o : Op} (he : isEff G o = false) (hr : isRead G o = false) : opN G o tm h = opN G o tm h' := by
  cases o <;> simp only [opN] <;> simp only [isEff, isRead] at he hr
  case load => cases hr
  case lookup => cases hr
  case entry => cases hr
  case convert s d x =>
    simp only [nConv]
    split
    · rename_i v hv
      unfold convSV
      cases v <;> simp only
      case ptr =>
        cases hs : G.ut s with
        | none => rfl
        | some D => cases hd : G.ut d with
          | none => cases D <;> rfl
          | some E => cases D <;> cases E <;> first | rfl | (rw [hd] at hr; cases hr)
      case slice =>
        cases hs : G.ut s with
        | none => rfl
        | some D => cases hd : G.ut d with
          | none => cases D <;> rfl
          | some E => cases D <;> cases E <;> first | rfl | (rw [hd] at hr; cases hr)
    · rfl
  case slice t x lo hi mx =>
    have hsl : ∀ v lo hi mx, sliceSV G t v lo hi mx h = sliceSV G t v lo hi mx h' := by
      intro v lo hi mx
      cases v <;> simp only [sliceSV]
      cases ht : G.ut t with
      | none => rfl
      | some D => cases D <;> first | rfl | (rw [ht] at hr; cases hr)
    simp only [nSlice, hsl]
  case call c =>
    unfold nCall
    cases hc : c.callee with
    | builtin b =>
      rw [hc] at hr he
      simp only
      cases hL : evalL tm c.args.toList with
      | none => rfl
      | some args =>
        simp only
        cases b <;> first | (cases hr; done) | (simp only [nCallB]; done) | (simp only [nCallB]; cases c.argTypes[0]? <;> rcases args with _ | ⟨x, _ | ⟨y, r⟩⟩ <;> rfl)
    | _ => rfl
  all_goals rfl
end
end Go.Ex

/- When an abstract frame stands for a real one, and what a run of a frame comes to. Conditions: none; definitions and small laws. -/
namespace Go.Ex
open Go.RowKit (Below)

def ItR (σ : Sg) : AItem → Item → Prop
  | .code c, i => i = .code c
  | .inBlock id, i => i = .inBlock id
  | .inLoop c, i => i = .inLoop c
  | .inRangeFunc _, _ => False
  | .endRangeFunc l, i => ∃ cl d n, σ l = some (cl, d, n) ∧ i = .endRangeFunc cl
  | .beginRound, i => i = .beginRound
theorem ItR.mono {σ τ : Sg} (h : σ.le τ) {a : AItem} {i : Item} (k : ItR σ a i) : ItR τ a i := by
  cases a <;> simp only [ItR] at k ⊢ <;> first | exact k | (obtain ⟨cl, d, n, e, r⟩ := k; exact ⟨cl, d, n, h _ _ e, r⟩)
def PanR (σ : Sg) (a : APan) (p : PanicEntry) : Prop := VR σ a.v p.v ∧ p.recovered = a.recovered ∧ p.goexit = false
theorem PanR.mono {σ τ : Sg} (h : σ.le τ) {a : APan} {p : PanicEntry} (k : PanR σ a p) : PanR τ a p := ⟨VR.mono h _ _ k.1, k.2⟩
def ModR (σ : Sg) : AMode → FrameMode → Prop
  | .run, m => m = .run
  | .returning, m => m = .returning
  | .panicking c, m => ∃ ch, m = .panicking ch ∧ All2 (PanR σ) c ch
theorem ModR.mono {σ τ : Sg} (h : σ.le τ) {a : AMode} {m : FrameMode} (k : ModR σ a m) : ModR τ a m := by
  cases a with
  | panicking c => obtain ⟨ch, e, r⟩ := k; exact ⟨ch, e, r.mono fun _ _ => PanR.mono h⟩
  | _ => exact k

/-- the frame -/
structure FrR (P : Program) (σ : Sg) (C : FC) (k : List AItem) (tm : T SV) (ds : List ADef) (m : AMode) (fr : Frame) : Prop where
  fn : fr.fn = C.fn
  kind : fr.kind = C.kind
  round : OptN σ C.round fr.roundOf
  tms : TmR σ tm C.nt fr.tmps
  defs : All2 (DefR σ) ds fr.defers
  mode : ModR σ m fr.mode
  todo : m = .run → All2 (ItR σ) k fr.todo
  kinds : C.kind = .normal ∨ C.kind = .deferred ∧ C.round = none
  fnok : ∃ f, P.funcs[fr.fn]? = some f
/-- its callers -/
def CpR (σ : Sg) : CP → FrameMode → Prop
  | none, m => m = .returning
  | some ch, m => ∃ chain, m = .panicking chain ∧ All2 (PanR σ) ch chain
theorem CpR.mono {σ τ : Sg} (h : σ.le τ) {a : CP} {m : FrameMode} (k : CpR σ a m) : CpR τ a m := by
  cases a with
  | some c => obtain ⟨ch, e, r⟩ := k; exact ⟨ch, e, r.mono fun _ _ => PanR.mono h⟩
  | _ => exact k
def CalR (σ : Sg) (C : FC) (cp : CP) (cs : List Frame) : Prop :=
  (match C.kind with
    | .deferred => ∃ c rest, cs = c :: rest ∧ CpR σ cp c.mode
    | _ => cp = none) ∧ (C.round ≠ none → cs ≠ [])
theorem CalR.mono {σ τ : Sg} (h : σ.le τ) {C : FC} {cp : CP} {cs : List Frame} (k : CalR σ C cp cs) : CalR τ C cp cs := by
  refine ⟨?_, k.2⟩
  have := k.1
  cases hk : C.kind <;> rw [hk] at this <;> simp only at this ⊢ <;> first | exact this | (obtain ⟨c, r, e, q⟩ := this; exact ⟨c, r, e, q.mono h⟩)
/-- the callers, before and behind -/
def CsR (τ : Sg) (C : FC) (cp : CP) (cs cs' : List Frame) : Prop :=
  match C.kind with
  | .deferred => ∃ c rest m, cs = c :: rest ∧ cs' = { c with mode := m } :: rest ∧ CpR τ cp m
  | _ => cs' = cs ∧ cp = none

/-- what a frame's run comes to -/
def OutR (P : Program) (τ : Sg) (C : FC) (m0 : Machine) (cs : List Frame) (w' : World) (cp : CP) : Out → Prop
  | .panic ch => ∃ fr chain cs', Steps P m0 (lone fr cs' w') ∧ fr.mode = .panicking chain ∧ All2 (PanR τ) ch chain ∧ fr.defers = [] ∧ (∃ f, P.funcs[fr.fn]? = some f) ∧ CsR τ C cp cs cs'
  | .ret v => match C.round with
    | none => ∃ fr y cs' f, Steps P m0 (lone fr cs' w') ∧ fr.mode = .returning ∧ fr.defers = [] ∧ fr.kind = C.kind ∧ fr.fn = C.fn ∧ P.funcs[fr.fn]? = some f ∧
        (results f fr.tmps).run P w' = .ok y w' ∧ VR τ v y ∧ CsR τ C cp cs cs'
    | some _ => ∃ c rest y, cs = c :: rest ∧ Steps P m0 (lone (c.finish y) rest w') ∧ VR τ v y ∧ cp = none
def FinR (P : Program) (N nx : Nat) (σ : Sg) (C : FC) (m0 : Machine) (cs : List Frame) (w : World) (r : Fin1) : Prop :=
  ∃ τ w', Sg.up nx σ τ ∧ HR N τ r.2.1 w' ∧ Below N w w' ∧ nx ≤ r.2.1.next ∧ OutR P τ C m0 cs w' r.2.2 r.1
theorem OutR.of_steps {P : Program} {τ : Sg} {C : FC} {m0 m1 : Machine} {cs : List Frame} {w' : World} {cp : CP} {o : Out} (h : Steps P m0 m1) (k : OutR P τ C m1 cs w' cp o) : OutR P τ C m0 cs w' cp o := by
  cases o with
  | panic ch => obtain ⟨fr, chain, cs', s, r⟩ := k; exact ⟨fr, chain, cs', h.trans s, r⟩
  | ret v =>
    unfold OutR at k ⊢
    cases hr : C.round with
    | none => rw [hr] at k; obtain ⟨fr, y, cs', f, s, r⟩ := k; exact ⟨fr, y, cs', f, h.trans s, r⟩
    | some l => rw [hr] at k; obtain ⟨c, rest, y, e, s, r⟩ := k; exact ⟨c, rest, y, e, h.trans s, r⟩
theorem FinR.of_steps {P : Program} {N nx ny : Nat} {σ τ : Sg} {C : FC} {m0 m1 : Machine} {cs : List Frame} {w w1 : World} {r : Fin1} (h : Steps P m0 m1) (hu : Sg.up nx σ τ) (hn : nx ≤ ny) (hb : Below N w w1)
    (k : FinR P N ny τ C m1 cs w1 r) : FinR P N nx σ C m0 cs w r := by
  obtain ⟨ρ, w', a, b, c, d, e⟩ := k
  exact ⟨ρ, w', hu.trans a hn, b, hb.trans c, Nat.le_trans hn d, e.of_steps h⟩

/-- the executor is right at this depth -/
def Sound (P : Program) (_G : Gl) (run : RunT) : Prop :=
  ∀ C k tm ds m h cp l, run C k tm ds m h cp = .ok l → ∀ N σ w fr cs, Glob σ → HR N σ h w → FrR P σ C k tm ds m fr → CalR σ C cp cs →
    ∃ r ∈ l, FinR P N h.next σ C (lone fr cs w) cs w r
end Go.Ex

/- One operation of a region, on the machine: by what execOp comes to. Conditions: none; laws of the machine. -/
namespace Go.Ex
section
variable {P : Program} {b : Frame} {a : Go.Act} {k : List Item} {cs : List Frame} {w w' : World} {ops : Array Oper} {i : Nat} {rest : List Nat} {o : Oper}

theorem eval_rho (a : Go.Act) : a.eval = rho a.tmps := funext fun x => by cases x <;> rfl
def notDefer (b : Frame) (o : Oper) : Prop := b.roundOf = none ∨ ∀ c, o.op ≠ .defer c
theorem notDefer.sem (h : notDefer b o) (ρ : Operand → Value) : o.semAt b.roundOf ρ = execOp ρ o := by
  rcases h with h | h
  · rw [h]; rfl
  · exact Oper.semAt_eq _ _ _ h
theorem stepX_val {x : Next} {y : Value} (ho : ops[i]? = some o) (hw : Region.wanted o (yielded ops a.tmps) = true) (hd : notDefer b o)
    (hr : (execOp (rho a.tmps) o).run P w = .ok x w') (hv : valOf x = some y) :
    step P (lone (b.atR a (.inRegion ops (i :: rest) :: k)) cs w) = .next (lone (b.atR (a.put o.dst y) (.inRegion ops rest :: k)) cs w') := by
  have hf := Frame.finish_atR b a ops i rest k y
  rw [ho, Option.bind_some] at hf
  rw [← hf]
  refine step_lone_go ?_
  rw [stepGR_op ho hw, hd.sem, eval_rho]
  cases x <;> simp only [valOf] at hv <;> first | (cases hv; done) | skip
  · cases hv; simp [stepG.apply, Sem.runT_eq, hr]
  · cases hv; simp [stepG.apply, Sem.runT_eq, hr]
theorem stepX_enter {f : FuncId} {args : Array Value} (ho : ops[i]? = some o) (hw : Region.wanted o (yielded ops a.tmps) = true) (hd : notDefer b o)
    (hr : (execOp (rho a.tmps) o).run P w = .ok (.enter f args) w') :
    step P (lone (b.atR a (.inRegion ops (i :: rest) :: k)) cs w) = .next (lone (Frame.enter P f args .normal) (b.atR a (.inRegion ops (i :: rest) :: k) :: cs) w') := by
  refine step_lone_go ?_
  rw [stepGR_op ho hw, hd.sem, eval_rho]
  simp [stepG.apply, Sem.runT_eq, hr]
  rfl
theorem stepX_round {l : Nat} {f : FuncId} {T : Array Value} {as bd : Code} (ho : ops[i]? = some o) (hw : Region.wanted o (yielded ops a.tmps) = true) (hd : notDefer b o)
    (hr : (execOp (rho a.tmps) o).run P w = .ok (.round l f T as bd) w') :
    step P (lone (b.atR a (.inRegion ops (i :: rest) :: k)) cs w) = .next (lone (Frame.round l f T as bd .normal) (b.atR a (.inRegion ops (i :: rest) :: k) :: cs) w') := by
  refine step_lone_go ?_
  rw [stepGR_op ho hw, hd.sem, eval_rho]
  simp [stepG.apply, Sem.runT_eq, hr]
theorem stepX_defer {D : Deferred} (ho : ops[i]? = some o) (hw : Region.wanted o (yielded ops a.tmps) = true) (hd : b.roundOf = none)
    (hr : (execOp (rho a.tmps) o).run P w = .ok (.defer D) w') :
    step P (lone (b.atR a (.inRegion ops (i :: rest) :: k)) cs w) = .next (lone (b.atR (({ a with defers := D :: a.defers } : Go.Act).put o.dst undef) (.inRegion ops rest :: k)) cs w') := by
  have hf := Frame.finish_atR b { a with defers := D :: a.defers } ops i rest k undef
  rw [ho, Option.bind_some] at hf
  rw [← hf]
  refine step_lone_go ?_
  rw [stepGR_op ho hw, notDefer.sem (.inl hd), eval_rho]
  simp [stepG.apply, Sem.runT_eq, hr, Frame.atR]
theorem stepX_panic {v : Value} (ho : ops[i]? = some o) (hw : Region.wanted o (yielded ops a.tmps) = true) (hd : notDefer b o)
    (hr : (execOp (rho a.tmps) o).run P w = .halt (.panic v) w') :
    step P (lone (b.atR a (.inRegion ops (i :: rest) :: k)) cs w) = .next (lone { b.atR a (.inRegion ops (i :: rest) :: k) with mode := .panicking [{ v, recovered := false }] } cs w') := by
  refine step_lone_go ?_
  rw [stepGR_op ho hw, hd.sem, eval_rho]
  simp [stepG.apply, Sem.runT_eq, hr]
  rfl
/-- recover, in a frame that is no round -/
theorem stepX_recover (ho : ops[i]? = some o) (hw : Region.wanted o (yielded ops a.tmps) = true) (hd : b.roundOf = none)
    (hr : (execOp (rho a.tmps) o).run P w = .ok .recover w') :
    step P (lone (b.atR a (.inRegion ops (i :: rest) :: k)) cs w) = .next (match tryRecover (b.atR a (.inRegion ops (i :: rest) :: k)) cs with
      | some (v, cs') => lone (b.atR (a.put o.dst v) (.inRegion ops rest :: k)) cs' w'
      | none => lone (b.atR (a.put o.dst .nilIface) (.inRegion ops rest :: k)) cs w') := by
  have hf := fun v => Frame.finish_atR b a ops i rest k v
  simp only [ho, Option.bind_some] at hf
  cases ht : tryRecover (b.atR a (.inRegion ops (i :: rest) :: k)) cs with
  | none =>
    simp only
    rw [← hf]
    refine step_lone_go ?_
    rw [stepGR_op ho hw, notDefer.sem (.inl hd), eval_rho]
    have : (b.atR a (.inRegion ops (i :: rest) :: k)).roundOf = none := hd
    simp [stepG.apply, Sem.runT_eq, hr, this, ht]
  | some x =>
    obtain ⟨v, cs'⟩ := x
    simp only
    rw [← hf]
    refine step_lone_go ?_
    rw [stepGR_op ho hw, notDefer.sem (.inl hd), eval_rho]
    have : (b.atR a (.inRegion ops (i :: rest) :: k)).roundOf = none := hd
    simp [stepG.apply, Sem.runT_eq, hr, this, ht]
end
end Go.Ex

/- One operation of a region that does something: executor and machine. Conditions: the tables are the program's; deeper runs are right. -/
namespace Go.Ex
open Go.RowKit (Below)
section
variable {N : Nat} {P : Program} {G : Gl} {run : RunT}

theorem joinM_ok {α : Type} {f : α → M} : ∀ {l : List α} {L : List Fin1}, joinM f l = .ok L → ∀ x ∈ l, ∃ Lx, f x = .ok Lx ∧ ∀ r ∈ Lx, r ∈ L
  | [], L, _, x, hx => by cases hx
  | y :: l, L, e, x, hx => by
    simp only [joinM] at e
    split at e
    · cases e
    · rename_i a ha
      split at e
      · cases e
      · rename_i c hc
        cases e
        cases hx with
        | head => exact ⟨a, ha, fun r hr => List.mem_append_left _ hr⟩
        | tail _ hx =>
          obtain ⟨Lx, h1, h2⟩ := joinM_ok hc x hx
          exact ⟨Lx, h1, fun r hr => List.mem_append_right _ (h2 r hr)⟩
theorem bindJ_ok {f : Fin1 → M} {m : M} {L : List Fin1} (e : bindJ f m = .ok L) : ∃ l, m = .ok l ∧ joinM f l = .ok L := by
  cases m with
  | error => cases e
  | ok l => exact ⟨l, rfl, e⟩

/-- the callers' chain may have been turned by a recover -/
def CsC (C : FC) (cs cs' : List Frame) : Prop := cs' = cs ∨ C.kind = .deferred ∧ ∃ c r m, cs = c :: r ∧ cs' = { c with mode := m } :: r
theorem CsR.back {τ : Sg} {C : FC} {cp : CP} {cs cs' cs'' : List Frame} (h : CsC C cs cs') (k : CsR τ C cp cs' cs'') : CsR τ C cp cs cs'' := by
  rcases h with rfl | ⟨hk, c, r, m, rfl, rfl⟩
  · exact k
  · unfold CsR at k ⊢
    rw [hk] at k ⊢
    obtain ⟨c', r', m', e1, e2, e3⟩ := k
    cases e1
    exact ⟨c, r, m', rfl, e2, e3⟩
theorem OutR.back {τ : Sg} {C : FC} {m0 : Machine} {cs cs' : List Frame} {w' : World} {cp : CP} {o : Out} (hr : C.kind = .normal ∨ C.kind = .deferred ∧ C.round = none) (h : CsC C cs cs') (k : OutR P τ C m0 cs' w' cp o) : OutR P τ C m0 cs w' cp o := by
  cases o with
  | panic ch => obtain ⟨fr, chain, cs'', a, b, c, d, e, f⟩ := k; exact ⟨fr, chain, cs'', a, b, c, d, e, f.back h⟩
  | ret v =>
    unfold OutR at k ⊢
    cases hround : C.round with
    | none => rw [hround] at k; obtain ⟨fr, y, cs'', f, a, b, c, d, e, g, i, j, l⟩ := k; exact ⟨fr, y, cs'', f, a, b, c, d, e, g, i, j, l.back h⟩
    | some l =>
      rw [hround] at k
      rcases h with rfl | ⟨hk, _⟩
      · exact k
      · rcases hr with hr | hr
        · rw [hr] at hk; cases hk
        · rw [hr.2] at hround; cases hround
theorem FinR.back {nx : Nat} {σ : Sg} {C : FC} {m0 : Machine} {cs cs' : List Frame} {w : World} {r : Fin1} (hr : C.kind = .normal ∨ C.kind = .deferred ∧ C.round = none) (h : CsC C cs cs') (k : FinR P N nx σ C m0 cs' w r) : FinR P N nx σ C m0 cs w r := by
  obtain ⟨τ, w', a, b, c, d, e⟩ := k
  exact ⟨τ, w', a, b, c, d, e.back hr h⟩

/-- calls are right -/
def CallOk (P : Program) (G : Gl) (run : RunT) : Prop :=
  ∀ f args h l, runCall G run f args h = .ok l → ∃ fn body, G.fn f = some fn ∧ fn.body = some body ∧ ∀ N σ w L cs, Glob σ → HR N σ h w → VRL σ args L.toList →
    ∃ r ∈ l, FinR P N h.next σ ⟨f, 0, .normal, none⟩ (lone (Frame.enter P f L .normal) cs w) cs w r
def RoundOk (P : Program) (G : Gl) (run : RunT) : Prop :=
  ∀ l args h ls, runRound G run l args h = .ok ls → ∃ lp, h.t.get l = some (.loop lp) ∧ lp.params.length = args.length ∧ (∀ i ∈ lp.params, i < lp.nt) ∧
    ∀ N σ w T c cs cl d n, Glob σ → HR N σ h w → σ l = some (cl, d, n) → TmR σ (putParams lp.tmps (lp.params.zip args)) lp.nt T →
    ∃ r ∈ ls, FinR P N h.next σ ⟨lp.fn, lp.nt, .normal, some l⟩ (lone (Frame.round cl lp.fn T lp.assign lp.body .normal) (c :: cs) w) (c :: cs) w r

theorem undef_vr (σ : Sg) : VR σ (.tup []) undef := ⟨#[], rfl, rfl⟩
theorem All2.refl_nil {α β : Type} {R : α → β → Prop} : All2 R [] [] := .nil

/-- what is known in the midst of a region -/
structure Mid (P : Program) (σ : Sg) (C : FC) (tmP : T SV) (ds : List ADef) (cp : CP) (b : Frame) (a : Go.Act) (cs : List Frame) : Prop where
  fn : b.fn = C.fn
  kind : b.kind = C.kind
  round : OptN σ C.round b.roundOf
  kinds : C.kind = .normal ∨ C.kind = .deferred ∧ C.round = none
  fnok : ∃ f, P.funcs[b.fn]? = some f
  tmP : TmR σ tmP C.nt a.tmps
  defs : All2 (DefR σ) ds a.defers
  cal : CalR σ C cp cs
theorem Mid.roundNone {σ : Sg} {C : FC} {tmP : T SV} {ds : List ADef} {cp : CP} {b : Frame} {a : Go.Act} {cs : List Frame} (h : Mid P σ C tmP ds cp b a cs) (hr : C.round = none) : b.roundOf = none := by
  have := h.round
  rw [hr] at this
  exact this
/-- a panic in the midst of it -/
theorem Mid.panic (S : Sound P G run) {σ τ : Sg} {C : FC} {tmP : T SV} {ds : List ADef} {cp : CP} {b : Frame} {a : Go.Act} {cs : List Frame} {ch : List APan} {chain : List PanicEntry} {h' : AH} {w' : World} {l : List Fin1} {todo : List Item}
    (M : Mid P σ C tmP ds cp b a cs) (hle : σ.le τ) (hg : Glob σ) (H : HR N τ h' w') (hch : All2 (PanR τ) ch chain) (e : run C [] tmP ds (.panicking ch) h' cp = .ok l) :
    ∃ r ∈ l, FinR P N h'.next τ C (lone { b.atR a todo with mode := .panicking chain } cs w') cs w' r :=
  S _ _ _ _ _ _ _ _ e N τ w' _ cs (hg.mono hle) H
    ⟨M.fn, M.kind, M.round.mono hle, M.tmP.mono hle, M.defs.mono fun _ _ => DefR.mono hle, ⟨chain, rfl, hch⟩, (fun h => by cases h), M.kinds, M.fnok⟩ (M.cal.mono hle)

theorem recover_ok {σ : Sg} {C : FC} {cp : CP} {cs : List Frame} {fr : Frame} {_h : AH} (hk : fr.kind = C.kind) (hkk : C.kind = .deferred) (hc : CalR σ C cp cs) :
    ∃ y cs', (match tryRecover fr cs with | some (v, cs') => (v, cs') | none => (.nilIface, cs)) = (y, cs') ∧ VR σ (recoverA cp).1 y ∧ CalR σ C (recoverA cp).2 cs' ∧ CsC C cs cs' := by
  have hc1 := hc.1
  rw [hkk] at hc1
  obtain ⟨c, rest, rfl, hcp⟩ := hc1
  have hr : C.round ≠ none → (c :: rest) ≠ [] := hc.2
  cases cp with
  | none =>
    simp only [CpR] at hcp
    refine ⟨.nilIface, c :: rest, ?_, by simp only [recoverA, VR], hc, .inl rfl⟩
    simp [tryRecover, hk, hkk, hcp]
  | some ch =>
    obtain ⟨chain, hm, hch⟩ := hcp
    cases hch with
    | nil =>
      refine ⟨.nilIface, c :: rest, ?_, by simp only [recoverA, VR], ⟨by rw [hkk]; exact ⟨c, rest, rfl, [], hm, .nil⟩, hc.2⟩, .inl rfl⟩
      simp [tryRecover, hk, hkk, hm]
    | cons h1 h2 =>
      rename_i p e ps es
      obtain ⟨pv, pr⟩ := p
      obtain ⟨ev, er, eg⟩ := e
      obtain ⟨q1, q2, q3⟩ := h1
      simp only at q1 q2 q3
      subst q2 q3
      cases er with
      | true =>
        refine ⟨.nilIface, c :: rest, ?_, by simp only [recoverA, VR], ⟨by rw [hkk]; exact ⟨c, rest, rfl, _, hm, .cons ⟨q1, rfl, rfl⟩ h2⟩, hc.2⟩, .inl rfl⟩
        simp [tryRecover, hk, hkk, hm]
      | false =>
        refine ⟨ev, { c with mode := .panicking (⟨ev, true, false⟩ :: es) } :: rest, ?_, q1, ⟨by rw [hkk]; exact ⟨_, rest, rfl, _, rfl, .cons ⟨q1, rfl, rfl⟩ h2⟩, fun _ => by simp⟩, .inr ⟨hkk, c, rest, _, rfl, rfl⟩⟩
        simp [tryRecover, hk, hkk, hm]
end
end Go.Ex

/- No operation takes back a block's number. Conditions: none; laws of the executor. -/
namespace Go.Ex
section
variable {G : Gl} {tm : T SV} {h : AH}
theorem AH.put_next (h : AH) (b : Nat) (o : AObj) : (h.put b o).next = h.next := rfl
theorem AH.new_next (h : AH) (o : AObj) : (h.new o).next = h.next + 1 := rfl
theorem AH.newCells_next (h : AH) (e : TypeId) (l : List SV) : (h.newCells e l).next = h.next + 1 := rfl
theorem forkG_next (h : AH) (g b : Nat) : (h.forkG g b).next = h.next := by
  unfold AH.forkG
  split
  · rfl
  · exact (dropL_spec b _ h).2.1
theorem store_next {h h' : AH} {b off : Nat} {l : List SV} (e : h.store b off l = some h') : h'.next = h.next := by
  unfold AH.store at e
  split at e
  · split at e
    · split at e
      · cases e; rw [AH.put_next, kill_next]
      · cases e
    · cases e
  · cases e
def NextOk (h : AH) : Act → Prop
  | .val _ h' => h.next ≤ h'.next
  | .alts l => ∀ v h', (v, h') ∈ l → h.next ≤ h'.next
  | _ => True
theorem ofR_next {why : String} {r : R1} (hr : ∀ v h', r = some (v, h') → h.next ≤ h'.next) : NextOk h (ofR why r) := by
  unfold ofR
  split
  · exact hr _ _ rfl
  · trivial
theorem ofH_next {why : String} {r : Option AH} (hr : ∀ h', r = some h' → h.next ≤ h'.next) : NextOk h (ofH why r) := by
  unfold ofH
  split
  · exact hr _ rfl
  · trivial
theorem extern_next (x : Ext) (args : List SV) : NextOk h (externSV x args h) := by
  cases x <;> simp only [externSV]
  · exact Nat.le_refl _
  · unfold xNopP; split <;> first | exact Nat.le_refl _ | trivial
  · unfold xCas
    split
    · split
      · unfold xCas2
        split
        · split
          · split
            · rename_i hst; exact Nat.le_of_eq (store_next hst).symm
            · trivial
          · exact Nat.le_refl _
        · trivial
      · trivial
    · trivial
  · unfold xAdd
    split
    · unfold xAdd2
      split
      · split
        · rename_i hst; exact Nat.le_of_eq (store_next hst).symm
        · trivial
      · trivial
    · trivial
  · unfold xClone
    split
    · split
      · exact Nat.le_succ _
      · trivial
    · trivial
  · unfold xIdx
    split
    · split <;> first | exact Nat.le_refl _ | trivial
    · trivial
  · trivial
theorem callF_next (f : FuncId) (args : List SV) : NextOk h (callF G f args h) := by
  unfold callF
  split
  · exact extern_next _ _
  · trivial
theorem invokeF_next (fn : Fn) (cap args : List SV) : NextOk h (invokeF G fn cap args h) := by
  cases fn <;> simp only [invokeF]
  · exact callF_next _ _
  · split
    · split
      · exact callF_next _ _
      · trivial
    · trivial
  · split
    · split
      · exact callF_next _ _
      · trivial
    · trivial
    · split
      · exact callF_next _ _
      · trivial
    · trivial
  all_goals trivial
theorem append_next {ts : Array TypeId} {t : TypeId} {s x v : SV} {h' : AH} (e : appendSV G ts t s x h = some (v, h')) : h.next ≤ h'.next := by
  unfold appendSV at e
  split at e
  · split at e
    · split at e
      · split at e
        · cases e
        · unfold apTo at e
          split at e
          · split at e
            · cases e; exact Nat.le_refl _
            · split at e
              · cases e; exact Nat.le_succ _
              · cases e
          · split at e
            · unfold apSl at e
              split at e
              · split at e
                · cases e; exact Nat.le_refl _
                · unfold apIn at e
                  split at e
                  · split at e
                    · split at e
                      · cases e; rw [AH.put_next, kill_next]; exact Nat.le_refl _
                      · cases e
                    · cases e
                  · cases e
              · split at e
                · unfold apEx at e
                  split at e
                  · cases e; exact Nat.le_succ _
                  · cases e
                · unfold apUn at e
                  split at e
                  · split at e
                    · split at e
                      · split at e
                        · cases e; rw [AH.new_next, forkG_next]; exact Nat.le_succ _
                        · cases e
                      · cases e
                    · cases e
                  · cases e
            · cases e
          · cases e
      · cases e
    · cases e
  · cases e
theorem copy_next {t : TypeId} {x y v : SV} {h' : AH} (e : copySV G t x y h = some (v, h')) : h.next ≤ h'.next := by
  unfold copySV at e
  split at e
  · split at e
    · unfold copyN at e
      split at e
      · cases e; exact Nat.le_refl _
      · unfold copyTo at e
        split at e
        · cases e
        · split at e
          · split at e
            · rename_i hst; cases e; exact Nat.le_of_eq (store_next hst).symm
            · cases e
          · cases e
    · cases e
  · cases e
theorem delete_next {t : TypeId} {x y v : SV} {h' : AH} (e : deleteSV G t x y h = some (v, h')) : h.next ≤ h'.next := by
  unfold deleteSV at e
  repeat' (split at e)
  all_goals first | (cases e; exact Nat.le_refl _) | cases e
theorem callB_next (b : Builtin) (ts : Array TypeId) (args : List SV) : NextOk h (callB G b ts args h) := by
  unfold callB
  split
  · exact ofR_next fun _ _ e => append_next e
  · exact ofR_next fun _ _ e => copy_next e
  · exact ofR_next fun _ _ e => delete_next e
  all_goals trivial
theorem eCall_next (c : Call) : NextOk h (eCall G c tm h) := by
  unfold eCall
  split
  · trivial
  · unfold callO
    split
    · exact callB_next _ _ _
    · unfold callI
      split
      · exact invokeF_next _ _ _
      · trivial
    · unfold callV
      split
      · exact invokeF_next _ _ _
      · trivial
theorem opE_next (o : Op) : NextOk h (opE G o tm h) := by
  cases o <;> simp only [opE]
  case alloc e => unfold eAlloc; split <;> first | exact Nat.le_succ _ | trivial
  case box e x => unfold eBox; split <;> first | exact Nat.le_succ _ | trivial
  case buildSlice t n ps =>
    unfold eBSl
    split
    · refine ofR_next fun v h' e => ?_
      unfold buildSliceSV at e
      repeat' (split at e)
      all_goals first | (cases e; exact Nat.le_succ _) | cases e
    · trivial
  case store t a x =>
    unfold eStore
    split
    · split
      · unfold stAt
        split
        · split
          · exact ofH_next fun h' e => Nat.le_of_eq (store_next e).symm
          · trivial
        · trivial
      · trivial
    · trivial
  case convert s d x =>
    unfold eConv
    split
    · unfold convT
      split
      · refine ofR_next fun v h' e => ?_
        unfold convNew at e
        repeat' (split at e)
        all_goals first | (cases e; exact Nat.le_succ _) | cases e
      · unfold convSl
        repeat' split
        all_goals first | exact Nat.le_refl _ | trivial
      · trivial
    · trivial
  case makeMap t r =>
    unfold eMkM
    split
    · exact Nat.le_succ _
    · split
      · exact Nat.le_succ _
      · trivial
  case makeSlice t l c =>
    unfold eMkS
    split
    · split
      · refine ofR_next fun v h' e => ?_
        unfold makeSliceSV at e
        repeat' (split at e)
        all_goals first | (cases e; exact Nat.le_succ _) | cases e
      · trivial
    · trivial
  case mapUpdate t m k x =>
    unfold eMup
    repeat' split
    all_goals first | trivial | skip
    refine ofH_next fun h' e => ?_
    unfold mapUpd at e
    repeat' (split at e)
    all_goals first | (cases e; exact Nat.le_refl _) | cases e
  case insert t m k x =>
    unfold eMup
    repeat' split
    all_goals first | trivial | skip
    refine ofH_next fun h' e => ?_
    unfold mapUpd at e
    repeat' (split at e)
    all_goals first | (cases e; exact Nat.le_refl _) | cases e
  case mapEntry t m k =>
    unfold eMent
    repeat' split
    all_goals first | trivial | skip
    refine ofR_next fun v h' e => ?_
    unfold mapEnt at e
    repeat' (split at e)
    all_goals first | (cases e; exact Nat.le_refl _) | cases e
  case entryStore t m s x =>
    unfold eEst
    repeat' split
    all_goals first | trivial | skip
    refine ofH_next fun h' e => ?_
    unfold entStore at e
    repeat' (split at e)
    all_goals first | (cases e; exact Nat.le_refl _) | cases e
  case range t x =>
    unfold eRange
    split
    · exact Nat.le_succ _
    · exact Nat.le_succ _
    · unfold rangeM
      split
      · exact Nat.le_succ _
      · trivial
    · trivial
  case next it s =>
    unfold eNext
    split
    · unfold nextSV
      split
      · split
        · exact Nat.le_refl _
        · split
          · split
            · trivial
            · intro v h' hm
              rcases List.mem_append.1 hm with hm | hm
              · split at hm
                · rcases List.mem_singleton.1 hm with ⟨rfl, rfl⟩
                  exact Nat.le_refl _
                · cases hm
              · obtain ⟨e, _, he⟩ := List.mem_map.1 hm
                cases he
                exact Nat.le_refl _
          · trivial
        · split
          · exact Nat.le_refl _
          · split
            · exact Nat.le_refl _
            · trivial
        · trivial
      · trivial
    · trivial
  case call c => exact eCall_next c
  case defer c => unfold eDefer; split <;> trivial
  case panic x => unfold ePanic; split <;> trivial
  all_goals trivial
end
end Go.Ex

/- One operation of a region that does something: executor and machine (second part). Conditions: the tables are the program's; deeper runs are right. -/
namespace Go.Ex
open Go.RowKit (Below)
section
variable {N : Nat} {P : Program} {G : Gl} {run : RunT}

/-- what the rest of the region does, whatever the operation came to -/
def Rest1 (P : Program) (G : Gl) (N nx0 : Nat) (C : FC) (x : RI) (ih : Rest) (pr : List Pr) (tm : T SV) (tmP : T SV) (h : AH) (σ : Sg) (w : World) (b : Frame) (a : Go.Act) (cs : List Frame) (ops : Array Oper) (rest : List Nat) (kk : List Item) : Prop :=
  ∀ v h' cp' ds' l', fin G C x ih pr tm ds' v h' cp' = .ok l' → ∀ σ' w' cs' y D', Sg.up h.next σ σ' → HR N σ' h' w' → h.next ≤ h'.next → Below N w w' → VR σ' v y →
    CsC C cs cs' → Mid P σ' C tmP ds' cp' b { a with defers := D' } cs' →
    ∃ r ∈ l', FinR P N nx0 σ' C (lone (b.atR (({ a with defers := D' } : Go.Act).put x.o.dst y) (.inRegion ops rest :: kk)) cs' w') cs' w' r

theorem valOf_value {y : Value} : valOf (.value y) = some y := rfl
theorem effR_next {h h' : AH} {σ : Sg} {w : World} {v : SV} {r : Result Next} (_ : EffR N h.next σ w v h' r) : True := trivial

theorem atR_self (_b : Frame) (a : Go.Act) : ({ a with defers := a.defers } : Go.Act) = a := rfl

theorem after_ok {nx0 : Nat} (S : Sound P G run) (_Cl : CallOk P G run) {C : FC} {x : RI} {ih : Rest} {pr : List Pr} {tm tmP : T SV} {ds : List ADef} {h : AH} {cp : CP} {l ls : List Fin1} {σ : Sg} {w : World} {b : Frame} {a : Go.Act} {cs : List Frame}
    {ops : Array Oper} {rest : List Nat} {kk : List Item} {C1 : FC} {m1 : Machine} (M : Mid P σ C tmP ds cp b a cs) (hg : Glob σ)
    (hC1 : C1.kind = .normal) (e : joinM (after G run C tmP x ih pr tm ds cp) ls = .ok l)
    (hops : ops[x.i]? = some x.o) (hs : Steps P (lone (b.atR a (.inRegion ops (x.i :: rest) :: kk)) cs w) m1)
    (hf : ∃ r ∈ ls, FinR P N h.next σ C1 m1 (b.atR a (.inRegion ops (x.i :: rest) :: kk) :: cs) w r)
    (R : Rest1 P G N nx0 C x ih pr tm tmP h σ w b a cs ops rest kk) (hnx0 : nx0 ≤ h.next) :
    ∃ r ∈ l, FinR P N nx0 σ C (lone (b.atR a (.inRegion ops (x.i :: rest) :: kk)) cs w) cs w r := by
  obtain ⟨r1, hr1, τ, w1, hu, H1, hb1, hn1, hout⟩ := hf
  obtain ⟨Lx, hLx, hsub⟩ := joinM_ok e r1 hr1
  obtain ⟨o, h2, cp2⟩ := r1
  have hfin : ∀ y, (b.atR a (.inRegion ops (x.i :: rest) :: kk)).finish y = b.atR (a.put x.o.dst y) (.inRegion ops rest :: kk) := by
    intro y
    have := Frame.finish_atR b a ops x.i rest kk y
    rw [hops, Option.bind_some] at this
    exact this
  have hMτ : Mid P τ C tmP ds cp b a cs := ⟨M.fn, M.kind, M.round.mono hu.1, M.kinds, M.fnok, M.tmP.mono hu.1, M.defs.mono fun _ _ => DefR.mono hu.1, M.cal.mono hu.1⟩
  cases o with
  | ret v =>
    simp only [after] at hLx
    obtain ⟨y, hst, hv⟩ : ∃ y, Steps P (lone (b.atR a (.inRegion ops (x.i :: rest) :: kk)) cs w) (lone (b.atR (a.put x.o.dst y) (.inRegion ops rest :: kk)) cs w1) ∧ VR τ v y := by
      unfold OutR at hout
      cases hround : C1.round with
      | none =>
        rw [hround] at hout
        obtain ⟨fr, y, cs', f, q1, q2, q3, q4, q5, q6, q7, q8, q9⟩ := hout
        unfold CsR at q9
        rw [hC1] at q9
        obtain ⟨rfl, _⟩ := q9
        refine ⟨y, hs.trans (q1.trans (.one ?_)), q8⟩
        rw [← hfin]
        exact step_leave_returned ⟨q2, q3, by rw [q4, hC1], f, q6, q7⟩
      | some lp =>
        rw [hround] at hout
        obtain ⟨c, rst, y, q1, q2, q3, q4⟩ := hout
        cases q1
        exact ⟨y, hs.trans (by rw [hfin] at q2; exact q2), q3⟩
    obtain ⟨r, hr, hF⟩ := R v h2 cp ds Lx hLx τ w1 cs y a.defers hu H1 hn1 hb1 hv (.inl rfl) hMτ
    exact ⟨r, hsub r hr, hF.of_steps hst (hu.mono hnx0) (Nat.le_refl _) hb1⟩
  | panic ch =>
    simp only [after] at hLx
    obtain ⟨fr, chain, cs', q1, q2, q3, q4, ⟨f, q5⟩, q6⟩ := hout
    unfold CsR at q6
    rw [hC1] at q6
    obtain ⟨rfl, _⟩ := q6
    have hst : Steps P (lone (b.atR a (.inRegion ops (x.i :: rest) :: kk)) cs w) (lone { b.atR a (.inRegion ops (x.i :: rest) :: kk) with mode := .panicking chain } cs w1) :=
      hs.trans (q1.trans (.one (step_leave_panicked ⟨q2, q4, f, q5⟩)))
    obtain ⟨r, hr, hF⟩ := M.panic S hu.1 hg H1 q3 hLx
    exact ⟨r, hsub r hr, hF.of_steps hst (hu.mono hnx0) (Nat.le_trans hnx0 hn1) hb1⟩

theorem act_ok {nx0 : Nat} (K : GlOk P G) (S : Sound P G run) (Cl : CallOk P G run) (Rd : RoundOk P G run) {C : FC} {x : RI} {ih : Rest} {pr : List Pr} {tm tmC tmP : T SV} {ds : List ADef} {h : AH} {cp : CP} {l : List Fin1} {σ : Sg} {w : World} {b : Frame} {a : Go.Act}
    {cs : List Frame} {ops : Array Oper} {rest : List Nat} {kk : List Item} (M : Mid P σ C tmP ds cp b a cs) (hg : Glob σ) (H : HR N σ h w) (hT : TmR σ tmC C.nt a.tmps) (hag : Agree tm tmC x.o.op.operands.toList)
    (hops : ops[x.i]? = some x.o) (hw : Region.wanted x.o (yielded ops a.tmps) = true)
    (e : doAct G run C tmP x ih pr tm ds h cp (opE G x.o.op tm h) = .ok l)
    (R : Rest1 P G N nx0 C x ih pr tm tmP h σ w b a cs ops rest kk) (hnx0 : nx0 ≤ h.next) :
    ∃ r ∈ l, FinR P N nx0 σ C (lone (b.atR a (.inRegion ops (x.i :: rest) :: kk)) cs w) cs w r := by
  have hA := opE_ok (P := P) K H hT hg (o := x.o)
  rw [← opE_congr hag] at hA
  have hmid : ∀ {τ : Sg}, σ.le τ → Mid P τ C tmP ds cp b { a with defers := a.defers } cs := fun hle =>
    ⟨M.fn, M.kind, M.round.mono hle, M.kinds, M.fnok, M.tmP.mono hle, M.defs.mono fun _ _ => DefR.mono hle, M.cal.mono hle⟩
  -- deferred operations are .defer acts, or fail
  have hnd : (∀ d, opE G x.o.op tm h ≠ .defer d) → (∀ why, opE G x.o.op tm h ≠ .fail why) → notDefer b x.o := by
    intro h1 h2
    refine .inr fun c hc => ?_
    rw [hc] at h1 h2
    simp only [opE, eDefer] at h1 h2
    cases hd : deferO tm c with
    | none => rw [hd] at h2; exact h2 _ rfl
    | some d => rw [hd] at h1; exact h1 _ rfl
  have val : ∀ {v : SV} {h' : AH} {l' : List Fin1}, fin G C x ih pr tm ds v h' cp = .ok l' → EffR N h.next σ w v h' ((execOp (rho a.tmps) x.o).run P w) → h.next ≤ h'.next → notDefer b x.o →
      ∃ r ∈ l', FinR P N nx0 σ C (lone (b.atR a (.inRegion ops (x.i :: rest) :: kk)) cs w) cs w r := by
    intro v h' l' hf ⟨τ, nx, y, w', q1, q2, q3, q4, q5, q6⟩ hn hd
    have hst := stepX_val (P := P) (cs := cs) (k := kk) (rest := rest) (b := b) hops hw hd q1 q2
    obtain ⟨r, hr, hF⟩ := R v h' cp ds l' hf τ w' cs y a.defers q3 q4 hn q6 q5 (.inl rfl) (hmid q3.1)
    exact ⟨r, hr, hF.of_steps (.one hst) (q3.mono hnx0) (Nat.le_refl _) q6⟩
  have hnx := opE_next (G := G) (tm := tm) (h := h) x.o.op
  cases hact : opE G x.o.op tm h with
  | val v h' =>
    rw [hact] at e hA hnd hnx
    exact val e hA hnx (hnd (by simp) (by simp))
  | alts ls =>
    rw [hact] at e hA hnd hnx
    obtain ⟨v, h', hmem, hE⟩ := hA
    obtain ⟨Lx, hLx, hsub⟩ := joinM_ok e _ hmem
    obtain ⟨r, hr, hF⟩ := val hLx hE (hnx v h' hmem) (hnd (by simp) (by simp))
    exact ⟨r, hsub r hr, hF⟩
  | call f args h0 =>
    rw [hact] at e hA hnd
    obtain ⟨rfl, hA⟩ := hA
    obtain ⟨ls, hcall, hj⟩ := bindJ_ok e
    obtain ⟨fn, body, hfn, hbody, hC⟩ := Cl f args h0 ls hcall
    obtain ⟨L, hr, hL⟩ := hA fn body hfn hbody
    have hst := stepX_enter (P := P) (cs := cs) (k := kk) (rest := rest) (b := b) hops hw (hnd (by simp) (by simp)) hr
    exact after_ok S Cl M hg rfl hj hops (.one hst) (hC N σ w L _ hg H hL) R hnx0
  | round lp args =>
    rw [hact] at e hA hnd
    obtain ⟨ls, hcall, hj⟩ := bindJ_ok e
    obtain ⟨lo, hlo, hlen, hlt, hC⟩ := Rd lp args h ls hcall
    obtain ⟨cl, d, n, T, hs, hr, hT'⟩ := hA lo hlo hlen hlt
    have hst := stepX_round (P := P) (cs := cs) (k := kk) (rest := rest) (b := b) hops hw (hnd (by simp) (by simp)) hr
    exact after_ok S Cl M hg rfl hj hops (.one hst) (hC N σ w T _ cs cl d n hg H hs hT') R hnx0
  | defer d =>
    rw [hact] at e hA
    obtain ⟨D, hr, hD⟩ := hA
    simp only [doAct, doDefer] at e
    cases hround : C.round with
    | some _ => rw [hround] at e; cases e
    | none =>
      rw [hround] at e
      have hst := stepX_defer (P := P) (cs := cs) (k := kk) (rest := rest) (b := b) hops hw (M.roundNone hround) hr
      obtain ⟨r, hr', hF⟩ := R (.tup []) h cp (d :: ds) l e σ w cs undef (D :: a.defers) (Sg.up_refl _ _) H (Nat.le_refl _) (Below.refl _ _) (undef_vr σ) (.inl rfl)
        ⟨M.fn, M.kind, M.round, M.kinds, M.fnok, M.tmP, .cons hD M.defs, M.cal⟩
      exact ⟨r, hr', hF.of_steps (.one hst) (Sg.up_refl _ _) (Nat.le_refl _) (Below.refl _ _)⟩
  | recover =>
    rw [hact] at e hA
    simp only [ActR] at hA
    simp only [doAct, doRecover] at e
    have hround : C.round = none := by
      cases hr : C.round with
      | none => rfl
      | some _ => rw [hr] at e; cases hk : C.kind <;> rw [hk] at e <;> cases e
    have hst := stepX_recover (P := P) (cs := cs) (k := kk) (rest := rest) (b := b) hops hw (M.roundNone hround) hA
    rw [hround] at e
    rcases M.kinds with hk | ⟨hk, _⟩
    · rw [hk] at e
      have ht : tryRecover (b.atR a (.inRegion ops (x.i :: rest) :: kk)) cs = none := by
        have : (b.atR a (.inRegion ops (x.i :: rest) :: kk)).kind = .normal := M.kind.trans hk
        simp [tryRecover, this]
      rw [ht] at hst
      obtain ⟨r, hr', hF⟩ := R .nili h cp ds l e σ w cs .nilIface a.defers (Sg.up_refl _ _) H (Nat.le_refl _) (Below.refl _ _) (by simp only [VR]) (.inl rfl) (hmid σ.le_refl)
      exact ⟨r, hr', hF.of_steps (.one hst) (Sg.up_refl _ _) (Nat.le_refl _) (Below.refl _ _)⟩
    · rw [hk] at e
      obtain ⟨y, cs', h1, h2, h3, h4⟩ := recover_ok (_h := h) (fr := b.atR a (.inRegion ops (x.i :: rest) :: kk)) M.kind hk M.cal
      obtain ⟨r, hr', hF⟩ := R _ h _ ds l e σ w cs' y a.defers (Sg.up_refl _ _) H (Nat.le_refl _) (Below.refl _ _) h2 h4
        ⟨M.fn, M.kind, M.round, M.kinds, M.fnok, M.tmP, M.defs, h3⟩
      refine ⟨r, hr', (hF.back M.kinds h4).of_steps (.one ?_) (Sg.up_refl _ _) (Nat.le_refl _) (Below.refl _ _)⟩
      rw [hst]
      cases ht : tryRecover (b.atR a (.inRegion ops (x.i :: rest) :: kk)) cs with
      | none => rw [ht] at h1; cases h1; rfl
      | some z => obtain ⟨v, c⟩ := z; rw [ht] at h1; cases h1; rfl
  | panic v =>
    rw [hact] at e hA hnd
    obtain ⟨y, hr, hv⟩ := hA
    have hst := stepX_panic (P := P) (cs := cs) (k := kk) (rest := rest) (b := b) hops hw (hnd (by simp) (by simp)) hr
    obtain ⟨r, hr', hF⟩ := M.panic S (todo := .inRegion ops (x.i :: rest) :: kk) σ.le_refl hg H (.cons ⟨hv, rfl, rfl⟩ .nil : All2 (PanR σ) [⟨v, false⟩] [⟨y, false, false⟩]) e
    exact ⟨r, hr', hF.of_steps (.one hst) (Sg.up_refl _ _) hnx0 (Below.refl _ _)⟩
  | fail why =>
    rw [hact] at e
    cases e
end
end Go.Ex

/- Regions whose order is not drawn. Conditions: the tables are the program's; deeper runs are right. -/
namespace Go.Ex
open Go.RowKit (Below)
section
variable {N : Nat} {P : Program} {G : Gl} {run : RunT}

theorem put_tmps (a : Go.Act) (d : Option Tmp) (y : Value) : (a.put d y).tmps = match d with | some d => a.tmps.setIfInBounds d y | none => a.tmps := by cases d <;> rfl
theorem put_defers (a : Go.Act) (d : Option Tmp) (y : Value) : (a.put d y).defers = a.defers := by cases d <;> rfl
theorem TmR.put {σ : Sg} {tm tm' : T SV} {nt : Nat} {a : Go.Act} {d : Option Tmp} {v : SV} {y : Value} (h : TmR σ tm nt a.tmps) (e : setDst nt tm d v = some tm') (hv : VR σ v y) : TmR σ tm' nt (a.put d y).tmps := by
  rw [put_tmps]
  cases d with
  | none => cases e; exact h
  | some d =>
    simp only [setDst] at e
    split at e
    · rename_i hd
      cases e
      have hd' := blt_true.1 hd
      refine ⟨by simp [h.1], fun t x hx => ?_⟩
      rw [T.get_set] at hx
      simp only
      rw [Array.getElem?_setIfInBounds]
      split at hx
      · rename_i ht
        subst ht
        cases hx
        exact ⟨y, by rw [if_pos rfl, if_pos (by rw [h.1]; exact hd')], hv⟩
      · rename_i ht
        rw [if_neg (Ne.symm ht)]
        exact h.2 t x hx
    · cases e
/-- a place of which nothing is known may be written -/
theorem TmR.junk {σ : Sg} {tm : T SV} {nt : Nat} {a : Go.Act} {d : Option Tmp} {y : Value} (h : TmR σ tm nt a.tmps) (hd : ∀ t, d = some t → tm.get t = none) : TmR σ tm nt (a.put d y).tmps := by
  rw [put_tmps]
  cases d with
  | none => exact h
  | some d =>
    refine ⟨by simp [h.1], fun t x hx => ?_⟩
    simp only
    rw [Array.getElem?_setIfInBounds]
    by_cases ht : d = t
    · subst ht; rw [hd d rfl] at hx; cases hx
    · rw [if_neg ht]; exact h.2 t x hx
theorem Mid.put {σ : Sg} {C : FC} {tmP : T SV} {ds : List ADef} {cp : CP} {b : Frame} {a : Go.Act} {cs : List Frame} {d : Option Tmp} {y : Value} (M : Mid P σ C tmP ds cp b a cs) (hd : ∀ t, d = some t → tmP.get t = none) :
    Mid P σ C tmP ds cp b (a.put d y) cs :=
  ⟨M.fn, M.kind, M.round, M.kinds, M.fnok, M.tmP.junk hd, by rw [put_defers]; exact M.defs, M.cal⟩
theorem Mid.mono {σ τ : Sg} (hle : σ.le τ) {C : FC} {tmP : T SV} {ds : List ADef} {cp : CP} {b : Frame} {a : Go.Act} {cs : List Frame} (M : Mid P σ C tmP ds cp b a cs) : Mid P τ C tmP ds cp b a cs :=
  ⟨M.fn, M.kind, M.round.mono hle, M.kinds, M.fnok, M.tmP.mono hle, M.defs.mono fun _ _ => DefR.mono hle, M.cal.mono hle⟩

theorem clearT_get (d : Tmp) : ∀ (l : List RI) (tm : T SV), ((∃ x ∈ l, x.o.dst = some d) → (clearT tm l).get d = none) ∧ ((∀ x ∈ l, x.o.dst ≠ some d) → (clearT tm l).get d = tm.get d)
  | [], tm => ⟨fun ⟨x, hx, _⟩ => (by cases hx), fun _ => rfl⟩
  | x :: r, tm => by
    simp only [clearT]
    cases hd : x.o.dst with
    | none =>
      obtain ⟨h1, h2⟩ := clearT_get d r tm
      refine ⟨fun ⟨z, hz, hzd⟩ => ?_, fun hn => h2 fun z hz => hn z (List.mem_cons_of_mem _ hz)⟩
      cases hz with
      | head => rw [hd] at hzd; cases hzd
      | tail _ hz => exact h1 ⟨z, hz, hzd⟩
    | some e =>
      obtain ⟨h1, h2⟩ := clearT_get d r (tm.del e)
      by_cases hr : ∃ z ∈ r, z.o.dst = some d
      · exact ⟨fun _ => h1 hr, fun hn => by obtain ⟨z, hz, hzd⟩ := hr; exact absurd hzd (hn z (List.mem_cons_of_mem _ hz))⟩
      · have hr' : ∀ z ∈ r, z.o.dst ≠ some d := fun z hz hzd => hr ⟨z, hz, hzd⟩
        simp only
        rw [h2 hr', T.get_del]
        refine ⟨fun ⟨z, hz, hzd⟩ => ?_, fun hn => ?_⟩
        · cases hz with
          | head => rw [hd] at hzd; cases hzd; rw [if_pos rfl]
          | tail _ hz => exact absurd hzd (hr' z hz)
        · rw [if_neg]
          rintro rfl
          exact hn x List.mem_cons_self hd
theorem TmR.clear {σ : Sg} {nt : Nat} {A : Array Value} {l : List RI} {tm : T SV} (h : TmR σ tm nt A) : TmR σ (clearT tm l) nt A := by
  refine ⟨h.1, fun t v hv => ?_⟩
  by_cases hx : ∃ x ∈ l, x.o.dst = some t
  · rw [(clearT_get t l tm).1 hx] at hv; cases hv
  · rw [(clearT_get t l tm).2 fun x hx' e => hx ⟨x, hx', e⟩] at hv
    exact h.2 t v hv

/-! ### guards -/
theorem VR.bool_iff {σ : Sg} {v : SV} {y : Value} (h : VR σ v y) : (∀ b, y = .bool b → v = .bool b) := by
  intro b hb
  subst hb
  cases v <;> simp only [VR] at h <;> first
    | (cases h; rfl)
    | (cases h; done)
    | (obtain ⟨s, h, _⟩ := h; cases h; done)
    | (obtain ⟨cb, d, n, _, _, h⟩ := h; cases h; done)
    | (obtain ⟨cb, d, n, _, h⟩ := h; cases h; done)
    | (obtain ⟨cb, d, n, a, c, _, _, h, _⟩ := h; cases h; done)
    | (obtain ⟨fn', A, B, h, _⟩ := h; cases h; done)
theorem guard_ok {σ : Sg} {tm tmC : T SV} {nt : Nat} {A : Array Value} {ops : Array Oper} {o : Oper} {b : Bool} (hT : TmR σ tmC nt A)
    (hag : ∀ t w, guardOf ops.toList o = some (some t, w) → tm.get t = tmC.get t) (e : wantedA tm (guardOf ops.toList o) = some b) : Region.wanted o (yielded ops A) = b := by
  unfold guardOf at e hag
  unfold Region.wanted
  cases hg : o.guard with
  | none => rw [hg] at e; cases e; rfl
  | some jw =>
    obtain ⟨j, want⟩ := jw
    rw [hg] at e hag
    simp only at e hag ⊢
    have hdrop : dstAt (ops.toList.drop j) = (ops[j]?).bind (·.dst) := by
      have h0 : (ops.toList.drop j)[0]? = ops.toList[j]? := by rw [List.getElem?_drop, Nat.add_zero]
      rw [← Array.getElem?_toList, ← h0]
      cases ops.toList.drop j <;> rfl
    rw [hdrop] at e hag
    unfold yielded
    cases hd : (ops[j]?).bind (·.dst) with
    | none =>
      rw [hd] at e
      cases e
      rfl
    | some t =>
      rw [hd] at e hag
      simp only [wantedA] at e
      simp only [Option.bind_some]
      rw [hag t want rfl] at e
      split at e
      · rename_i bb hv
        obtain ⟨y, h1, h2⟩ := hT.2 t _ hv
        simp only [VR] at h2
        rw [h1, h2]
        cases e
        cases bb <;> cases want <;> rfl
      · rename_i v hne hv
        cases e
        obtain ⟨y, h1, h2⟩ := hT.2 t _ hv
        rw [h1]
        cases y <;> first
          | rfl
          | (have := h2.bool_iff _ rfl; exact absurd this (hne _))
      · cases e

/-- one operation that hands back a value alone -/
theorem stepN_ok (K : GlOk P G) {C : FC} {x : RI} {tm tmC : T SV} {h : AH} {σ : Sg} {w : World} {b : Frame} {a : Go.Act} {cs : List Frame} {ops : Array Oper} {rest : List Nat} {kk : List Item} {v : SV}
    (H : HR N σ h w) (hg : Glob σ) (hT : TmR σ tmC C.nt a.tmps) (hag : Agree tm tmC x.o.op.operands.toList) (hops : ops[x.i]? = some x.o) (hw : Region.wanted x.o (yielded ops a.tmps) = true)
    (e : opN G x.o.op tm h = some v) :
    ∃ y, VR σ v y ∧ step P (lone (b.atR a (.inRegion ops (x.i :: rest) :: kk)) cs w) = .next (lone (b.atR (a.put x.o.dst y) (.inRegion ops rest :: kk)) cs w) := by
  have e' : opN G x.o.op tmC h = some v := by rw [← opN_congr hag]; exact e
  obtain ⟨y, h1, h2⟩ := opN_ok (P := P) K H hT hg e'
  refine ⟨y, h2, stepX_val hops hw (.inr fun c hc => ?_) h1 rfl⟩
  rw [hc] at e
  cases e

theorem plainRis_spec (all : List Oper) : ∀ (l : List Oper) (n : Nat) (x : RI), x ∈ plainRis G all n l → ∃ i, x.i = n + i ∧ l[i]? = some x.o ∧ x.g = guardOf all x.o ∧ x.pre = 0 ∧ (x.cl = .e ∨ x.cl = .n)
  | [], _, _, h => by cases h
  | o :: r, n, x, h => by
    simp only [plainRis] at h
    cases h with
    | head =>
      refine ⟨0, rfl, rfl, rfl, rfl, ?_⟩
      simp only
      cases isEff G o.op <;> simp
    | tail _ h =>
      obtain ⟨i, h1, h2, h3, h4⟩ := plainRis_spec all r (n + 1) x h
      exact ⟨i + 1, by omega, by simpa using h2, h3, h4⟩

theorem regU_ok (K : GlOk P G) (S : Sound P G run) (Cl : CallOk P G run) (Rd : RoundOk P G run) {C : FC} {k : List AItem} {tmP : T SV} {ops : Array Oper} {kk : List Item} {b : Frame} :
    ∀ (m n : Nat) (L : List Oper), ops.toList.drop n = L → L.length = m → ∀ (tm : T SV) (ds : List ADef) (h : AH) (cp : CP) (l : List Fin1) (σ : Sg) (w : World) (a : Go.Act) (cs : List Frame),
      regRun G run C k tmP (plainRis G ops.toList n L) [] tm ds h cp = .ok l → Glob σ → HR N σ h w → TmR σ tm C.nt a.tmps → Mid P σ C tmP ds cp b a cs → All2 (ItR σ) k kk →
      (∀ o ∈ L, ∀ t, o.dst = some t → tmP.get t = none) →
      ∃ r ∈ l, FinR P N h.next σ C (lone (b.atR a (.inRegion ops (List.range' n m) :: kk)) cs w) cs w r := by
  intro m
  induction m with
  | zero =>
    intro n L hL hm tm ds h cp l σ w a cs e hg H hT M hk hd
    have : L = [] := List.length_eq_zero_iff.1 hm
    subst this
    have e' : run C k tm ds .run h cp = .ok l := e
    obtain ⟨r, hr, hF⟩ := S _ _ _ _ _ _ _ _ e' N σ w (b.atR a kk) cs hg H ⟨M.fn, M.kind, M.round, hT, M.defs, rfl, fun _ => hk, M.kinds, M.fnok⟩ M.cal
    exact ⟨r, hr, hF.of_steps (.one stepR_region_end) (Sg.up_refl _ _) (Nat.le_refl _) (Below.refl _ _)⟩
  | succ m ih =>
    intro n L hL hm tm ds h cp l σ w a cs e hg H hT M hk hd
    cases L with
    | nil => simp at hm
    | cons o r =>
      simp at hm
      have hr : ops.toList.drop (n + 1) = r := by rw [← List.drop_drop, hL]; rfl
      have hops : ops[n]? = some o := by
        rw [← Array.getElem?_toList]
        have := List.getElem?_drop (xs := ops.toList) (i := n) (j := 0)
        rw [hL] at this
        simpa using this.symm
      have hd0 : ∀ t, o.dst = some t → tmP.get t = none := hd o List.mem_cons_self
      have hdr : ∀ o ∈ r, ∀ t, o.dst = some t → tmP.get t = none := fun z hz => hd z (List.mem_cons_of_mem _ hz)
      let x : RI := ⟨n, o, guardOf ops.toList o, 0, (match isEff G o.op with | true => .e | false => .n)⟩
      have e1 : regOp G run C tmP x (regRun G run C k tmP (plainRis G ops.toList (n + 1) r)) [] tm ds h cp = .ok l := e
      rw [List.range'_succ]
      -- what comes behind
      have cont : ∀ v tm' ds' h' cp' l' σ' w' cs' y D', setDst C.nt tm o.dst v = some tm' → regRun G run C k tmP (plainRis G ops.toList (n + 1) r) [] tm' ds' h' cp' = .ok l' → Sg.up h.next σ σ' → HR N σ' h' w' → VR σ' v y →
          Mid P σ' C tmP ds' cp' b { a with defers := D' } cs' →
          ∃ r ∈ l', FinR P N h'.next σ' C (lone (b.atR (({ a with defers := D' } : Go.Act).put o.dst y) (.inRegion ops (List.range' (n + 1) m) :: kk)) cs' w') cs' w' r := by
        intro v tm' ds' h' cp' l' σ' w' cs' y D' hset hreg hu H' hv M'
        exact ih (n + 1) r hr hm tm' ds' h' cp' l' σ' w' _ cs' hreg (hg.mono hu.1) H' (TmR.put (a := { a with defers := D' }) (hT.mono hu.1) hset hv) (M'.put hd0) (hk.mono fun _ _ => ItR.mono hu.1) hdr
      have hag : Agree tm tm o.op.operands.toList := fun _ _ => rfl
      have skip : Region.wanted o (yielded ops a.tmps) = false → doSet C.nt o.dst (.tup []) (regRun G run C k tmP (plainRis G ops.toList (n + 1) r)) [] tm ds h cp = .ok l →
          ∃ r ∈ l, FinR P N h.next σ C (lone (b.atR a (.inRegion ops (n :: List.range' (n + 1) m) :: kk)) cs w) cs w r := by
        intro hw e2
        unfold doSet at e2
        split at e2
        · rename_i tm' hset
          obtain ⟨r, hr, hF⟩ := cont _ tm' ds h cp l σ w cs undef a.defers hset e2 (Sg.up_refl _ _) H (undef_vr σ) M
          refine ⟨r, hr, hF.of_steps (.one ?_) (Sg.up_refl _ _) (Nat.le_refl _) (Below.refl _ _)⟩
          have := stepR_op_skip (P := P) (b := b) (a := a) (k := kk) (cs := cs) (w := w) (ops := ops) (i := n) (rest := List.range' (n + 1) m) (by rw [hops]; exact hw)
          rw [hops, Option.bind_some] at this
          exact this
        · cases e2
      have go : Region.wanted o (yielded ops a.tmps) = true → regDo G x.cl run C tmP x (regRun G run C k tmP (plainRis G ops.toList (n + 1) r)) [] tm ds h cp = .ok l →
          ∃ r ∈ l, FinR P N h.next σ C (lone (b.atR a (.inRegion ops (n :: List.range' (n + 1) m) :: kk)) cs w) cs w r := by
        intro hw e2
        cases hE : isEff G o.op with
        | true =>
          have hc : x.cl = .e := by simp only [x, hE]
          rw [hc] at e2
          refine act_ok (x := x) K S Cl Rd M hg H hT hag hops hw e2 ?_ (Nat.le_refl _)
          intro v h' cp' ds' l' hf σ' w' cs' y D' hu H' hn hb hv _ M'
          unfold fin at hf
          simp only [promises, doSet] at hf
          split at hf
          · rename_i tm' hset
            obtain ⟨r, hr, hF⟩ := cont v tm' ds' h' cp' l' σ' w' cs' y D' hset hf hu H' hv M'
            exact ⟨r, hr, hF.of_steps (.refl _ _) (Sg.up_refl _ _) hn (Below.refl _ _)⟩
          · cases hf
        | false =>
          have hc : x.cl = .n := by simp only [x, hE]
          rw [hc] at e2
          have e3 : doN G run C tmP x (regRun G run C k tmP (plainRis G ops.toList (n + 1) r)) [] tm ds h cp = .ok l := e2
          unfold doN at e3
          split at e3
          · rename_i v hv
            unfold doSet at e3
            split at e3
            · rename_i tm' hset
              obtain ⟨y, h1, h2⟩ := stepN_ok (P := P) (C := C) (x := x) (b := b) (cs := cs) (kk := kk) (rest := List.range' (n + 1) m) K H hg hT hag hops hw hv
              obtain ⟨r, hr, hF⟩ := cont _ tm' ds h cp l σ w cs y a.defers hset e3 (Sg.up_refl _ _) H h1 M
              exact ⟨r, hr, hF.of_steps (.one h2) (Sg.up_refl _ _) (Nat.le_refl _) (Below.refl _ _)⟩
            · cases e3
          · cases e3
      unfold regOp at e1
      split at e1
      · rename_i hgd
        refine go ?_ e1
        refine guard_ok hT (fun _ _ _ => rfl) ?_
        have : guardOf ops.toList o = none := hgd
        rw [this]
        rfl
      · rename_i gd hgd
        have hgd' : guardOf ops.toList o = some gd := hgd
        unfold regG at e1
        split at e1
        · cases e1
        · rename_i hwa
          exact go (guard_ok hT (fun _ _ _ => rfl) (by rw [hgd']; exact hwa)) e1
        · rename_i hwa
          exact skip (guard_ok hT (fun _ _ _ => rfl) (by rw [hgd']; exact hwa)) e1
end
end Go.Ex

/- The executor's tests for equal values and objects. Conditions: none. -/
namespace Go.Ex
theorem kindEq_eq {k k' : IntKind} (h : kindEq k k' = true) : k = k' := kindEq_true h
mutual
theorem SV.beq_ok : ∀ (a b : SV), SV.beq a b = true → a = b
  | .bool a, b, h => by cases b <;> simp only [SV.beq] at h <;> first | (cases h; done) | (have := beq_iff_eq.1 h; subst this; rfl)
  | .int k n, b, h => by
    cases b <;> simp only [SV.beq] at h <;> first | (cases h; done) | skip
    rw [Bool.and_eq_true, eqF_eq] at h
    rw [kindEq_eq h.1, of_decide_eq_true h.2]
  | .str a, b, h => by
    cases b <;> simp only [SV.beq] at h <;> first | (cases h; done) | skip
    rw [bytesEq_eq] at h
    rw [eq_of_beq h]
  | .nilp, b, h => by cases b <;> simp only [SV.beq] at h <;> first | (cases h; done) | rfl
  | .ptr x y, b, h => by
    cases b <;> simp only [SV.beq] at h <;> first | (cases h; done) | skip
    rw [Bool.and_eq_true, beq_true, beq_true] at h
    rw [h.1, h.2]
  | .nils, b, h => by cases b <;> simp only [SV.beq] at h <;> first | (cases h; done) | rfl
  | .slice a1 a2 a3 a4 a5 a6, b, h => by
    cases b <;> simp only [SV.beq] at h <;> first | (cases h; done) | skip
    simp only [Bool.and_eq_true, beq_true, beq_iff_eq] at h
    obtain ⟨⟨⟨⟨⟨h1, h2⟩, h3⟩, h4⟩, h5⟩, h6⟩ := h
    rw [h1, h2, h3, h4, h5, h6]
  | .map0, b, h => by cases b <;> simp only [SV.beq] at h <;> first | (cases h; done) | rfl
  | .map x, b, h => by
    cases b <;> simp only [SV.beq] at h <;> first | (cases h; done) | skip
    rw [beq_true.1 h]
  | .func f x y, b, h => by
    cases b <;> simp only [SV.beq] at h <;> first | (cases h; done) | skip
    simp only [Bool.and_eq_true, decide_eq_true_eq] at h
    rw [h.1.1, SV.beqL_ok _ _ h.1.2, SV.beqL_ok _ _ h.2]
  | .nilf, b, h => by cases b <;> simp only [SV.beq] at h <;> first | (cases h; done) | rfl
  | .iface t v, b, h => by
    cases b <;> simp only [SV.beq] at h <;> first | (cases h; done) | skip
    rw [Bool.and_eq_true, beq_true] at h
    rw [h.1, SV.beq_ok _ _ h.2]
  | .nili, b, h => by cases b <;> simp only [SV.beq] at h <;> first | (cases h; done) | rfl
  | .agg x, b, h => by
    cases b <;> simp only [SV.beq] at h <;> first | (cases h; done) | skip
    rw [SV.beqL_ok _ _ h]
  | .tup x, b, h => by
    cases b <;> simp only [SV.beq] at h <;> first | (cases h; done) | skip
    rw [SV.beqL_ok _ _ h]
theorem SV.beqL_ok : ∀ (a b : List SV), SV.beqL a b = true → a = b
  | [], b, h => by cases b <;> simp only [SV.beqL] at h <;> first | (cases h; done) | rfl
  | x :: r, b, h => by
    cases b <;> simp only [SV.beqL] at h <;> first | (cases h; done) | skip
    rw [Bool.and_eq_true] at h
    rw [SV.beq_ok _ _ h.1, SV.beqL_ok _ _ h.2]
end
theorem optBeq_ok {a b : Option SV} (h : optBeq a b = true) : a = b := by
  cases a <;> cases b <;> simp only [optBeq] at h <;> first | rfl | (cases h; done) | rw [SV.beq_ok _ _ h]
theorem beqT_ok : ∀ (a b : T SV), T.beqT a b = true → a = b
  | .e, b, h => by cases b <;> simp only [T.beqT] at h <;> first | rfl | cases h
  | .n u a b c d, t, h => by
    cases t <;> simp only [T.beqT] at h <;> first | (cases h; done) | skip
    simp only [Bool.and_eq_true] at h
    rw [optBeq_ok h.1.1.1.1, beqT_ok a _ h.1.1.1.2, beqT_ok b _ h.1.1.2, beqT_ok c _ h.1.2, beqT_ok d _ h.2]
theorem entBeq_ok : ∀ (a b : List (SV × SV × Nat)), entBeq a b = true → a = b
  | [], b, h => by cases b <;> simp only [entBeq] at h <;> first | rfl | cases h
  | (x, y, z) :: r, b, h => by
    cases b with
    | nil => cases h
    | cons q s =>
      obtain ⟨q1, q2, q3⟩ := q
      simp only [entBeq, Bool.and_eq_true, beq_true] at h
      rw [SV.beq_ok _ _ h.1.1.1, SV.beq_ok _ _ h.1.1.2, h.1.2, entBeq_ok r s h.2]
theorem objBeq_ok {a b : AObj} (h : a.beq b = true) : a = b := by
  cases a <;> cases b <;> simp only [AObj.beq] at h <;> first | (cases h; done) | skip
  · rename_i x y
    simp only [Bool.and_eq_true, beq_true] at h
    obtain ⟨⟨⟨h1, h2⟩, h3⟩, h4⟩ := h
    obtain ⟨d, n, e, g⟩ := x
    obtain ⟨d', n', e', g'⟩ := y
    simp only at h1 h2 h3 h4
    rw [h1, h2, h3, beqT_ok _ _ h4]
  · simp only [Bool.and_eq_true, beq_true] at h
    rw [h.1, entBeq_ok _ _ h.2]
end Go.Ex

/- A heap of which more is known gives the same values. Conditions: none; laws of the executor. -/
namespace Go.Ex
section
variable {G : Gl} {tm : T SV} {h h' : AH}
def Knows (h h' : AH) : Prop := ∀ b o, h.t.get b = some o → h'.t.get b = some o
theorem Knows.load (k : Knows h h') {b off n : Nat} {l : List SV} (e : h.load b off n = some l) : h'.load b off n = some l := by
  unfold AH.load at e ⊢
  split at e
  · rename_i c hc
    rw [k _ _ hc]
    exact e
  · cases e
theorem Knows.load1 (k : Knows h h') {b off : Nat} {l : SV} (e : h.load1 b off = some l) : h'.load1 b off = some l := by
  unfold AH.load1 at e ⊢
  split at e
  · rename_i c hc
    rw [k _ _ hc]
    exact e
  · cases e
theorem Knows.entries (k : Knows h h') {x : SV} {es : List (SV × SV × Nat)} (e : entriesOf x h = some es) : entriesOf x h' = some es := by
  unfold entriesOf at e ⊢
  split at e
  · exact e
  · split at e
    · rename_i hb
      rw [k _ _ hb]
      exact e
    · cases e
  · cases e
theorem Knows.arr (k : Knows h h') {b n : Nat} (e : arrIn h b n = true) : arrIn h' b n = true := by
  unfold arrIn at e ⊢
  split at e
  · rename_i c hc
    rw [k _ _ hc]
    exact e
  · cases e
theorem Knows.conv (k : Knows h h') {s d : TypeId} {x v : SV} (e : convSV G s d x h = some v) : convSV G s d x h' = some v := by
  unfold convSV at e ⊢
  cases x <;> simp only at e ⊢ <;> first | exact e | skip
  · split at e
    · rename_i hs hd
      try rw [hs, hd]
      try simp only
      split at e
      · rename_i h1 h2
        rw [h1, k.load1 h2]
        exact e
      · cases e
    · cases e
  · split at e
    · rename_i hs hd
      try rw [hs, hd]
      try simp only
      split at e
      · rename_i h1
        try rw [h1]
        try simp only
        split at e
        · rename_i h2
          rw [k.load h2]
          exact e
        · cases e
      · cases e
    · cases e
theorem Knows.slice (k : Knows h h') {t : TypeId} {x v : SV} {lo hi mx : Option SV} (e : sliceSV G t x lo hi mx h = some v) : sliceSV G t x lo hi mx h' = some v := by
  unfold sliceSV at e ⊢
  cases x <;> simp only at e ⊢ <;> first | exact e | skip
  split at e
  · rename_i ht
    try rw [ht]
    try simp only
    split at e
    · rename_i hs
      try rw [hs]
      try simp only
      split at e
      · rename_i h1 h2
        rw [k.arr h1, h2]
        exact e
      · cases e
    · cases e
  · cases e
theorem Knows.lookup (k : Knows h h') {t : TypeId} {x y v : SV} {ok : Bool} (e : lookupSV G t x y ok h = some v) : lookupSV G t x y ok h' = some v := by
  unfold lookupSV at e ⊢
  split at e
  · rename_i ht
    split at e
    · rename_i h1 h2
      rw [h1, k.entries h2]
      exact e
    · cases e
  · cases e
theorem Knows.entry (k : Knows h h') {x v : SV} (e : entrySV x h = some v) : entrySV x h' = some v := by
  unfold entrySV at e ⊢
  split at e
  · split at e
    · rename_i hb
      try rw [k _ _ hb]
      try simp only
      split at e
      · rename_i h1 h2
        rw [h1, k _ _ h2]
        exact e
      · cases e
    · cases e
  · cases e
theorem Knows.len (k : Knows h h') {t : TypeId} {x v : SV} (e : lenSV G t x h = some v) : lenSV G t x h' = some v := by
  unfold lenSV at e ⊢
  split at e <;> first | exact e | skip
  rename_i ht
  split at e
  · rename_i h1
    rw [k.entries h1]
    exact e
  · cases e
theorem Knows.ld (k : Knows h h') {t : TypeId} {b off : Nat} {v : SV} (e : ldAt G t b off h = some v) : ldAt G t b off h' = some v := by
  unfold ldAt at e ⊢
  split at e
  · exact k.load1 e
  · unfold ldAgg at e ⊢
    split at e
    · split at e
      · rename_i h1
        rw [k.load h1]
        exact e
      · cases e
    · cases e
  · cases e
theorem Knows.opN (k : Knows h h') {o : Op} {v : SV} (e : opN G o tm h = some v) : opN G o tm h' = some v := by
  cases o <;> simp only [Go.Ex.opN] at e ⊢ <;> first | exact e | skip
  case load t a =>
    unfold nLoad at e ⊢
    split at e
    · exact k.ld e
    · cases e
  case convert s d x =>
    unfold nConv at e ⊢
    split at e
    · exact k.conv e
    · cases e
  case slice t x lo hi mx =>
    unfold nSlice at e ⊢
    split at e
    · cases e
    · split at e
      · cases e
      · split at e
        · cases e
        · split at e
          · cases e
          · split at e
            · exact k.slice e
            · cases e
  case lookup t x y ok =>
    unfold nLook at e ⊢
    split at e
    · split at e
      · exact k.lookup e
      · cases e
    · cases e
  case entry it =>
    unfold nEntry at e ⊢
    split at e
    · exact k.entry e
    · cases e
  case call c =>
    unfold nCall at e ⊢
    split at e
    · split at e
      · unfold nCallB at e ⊢
        split at e <;> first | exact e | exact k.len e
      · cases e
    · cases e
end
end Go.Ex

/- The order in which a drawn region's operations are gone through. Conditions: none; laws of numbers. -/
namespace Go.Ex
theorem bit_or (acc i j : Nat) : Nat.testBit (Nat.lor acc (Nat.pow 2 i)) j = (Nat.testBit acc j || decide (j = i)) := by
  show Nat.testBit (acc ||| 2 ^ i) j = _
  rw [Nat.testBit_or, Nat.testBit_two_pow]
  congr 1
  rw [Bool.eq_iff_iff]
  simp
  exact eq_comm
theorem land_sub {a b : Nat} (h : Nat.beq (Nat.land a b) a = true) : ∀ j, Nat.testBit a j = true → Nat.testBit b j = true := by
  intro j hj
  have h1 : a &&& b = a := beq_true.1 h
  rw [← h1, Nat.testBit_and, Bool.and_eq_true] at hj
  exact hj.2
theorem land_sup {a b : Nat} (h : Nat.beq (Nat.land a b) b = true) : ∀ j, Nat.testBit b j = true → Nat.testBit a j = true := by
  intro j hj
  have h1 : a &&& b = b := beq_true.1 h
  rw [← h1, Nat.testBit_and, Bool.and_eq_true] at hj
  exact hj.1
theorem ordOk_nil {full acc eff : Nat} (h : ordOk full [] acc eff = true) : acc = full := beq_true.1 h
theorem ordOk_cons {full acc eff : Nat} {x : RI} {r : List RI} (h : ordOk full (x :: r) acc eff = true) :
    Nat.testBit acc x.i = false ∧ (∀ j, Nat.testBit x.pre j = true → Nat.testBit acc j = true) ∧ (∀ j, Nat.testBit eff j = true → Nat.testBit x.pre j = true) ∧
    ordOk full r (Nat.lor acc (Nat.pow 2 x.i)) (match x.cl with | .e => Nat.lor eff (Nat.pow 2 x.i) | _ => eff) = true := by
  simp only [ordOk] at h
  split at h
  · cases h
  · rename_i h1
    split at h
    · rename_i h2 h3
      exact ⟨h1, land_sub h2, land_sup h3, h⟩
    · cases h
theorem pairsOk_spec {a : RI} : ∀ {r : List RI}, pairsOk a r = true → ∀ b ∈ r, pairOk a b = true
  | [], _, b, hb => by cases hb
  | c :: r, h, b, hb => by
    simp only [pairsOk] at h
    split at h
    · rename_i h1
      cases hb with
      | head => exact h1
      | tail _ hb => exact pairsOk_spec h b hb
    · cases h
theorem allPairs_spec : ∀ {l : List RI}, allPairs l = true → ∀ (i j : Nat) (a b : RI), i < j → l[i]? = some a → l[j]? = some b → pairOk a b = true
  | [], _, i, j, a, b, _, ha, _ => by simp at ha
  | c :: r, h, i, j, a, b, hij, ha, hb => by
    simp only [allPairs] at h
    split at h
    · rename_i h1
      cases j with
      | zero => omega
      | succ j =>
        simp at hb
        cases i with
        | zero => simp at ha; subst ha; exact pairsOk_spec h1 b (List.mem_of_getElem? hb)
        | succ i => exact allPairs_spec h i j a b (by omega) (by simpa using ha) hb
    · cases h
/-- two operations, the first with the smaller number -/
theorem pairOk_spec {a b : RI} (h : pairOk a b = true) : (∀ d, a.o.dst = some d → b.o.dst ≠ some d) ∧
    (Nat.testBit b.pre a.i = true ∨ (∀ d, a.o.dst = some d → usesOp d b = false) ∧ (∀ d, b.o.dst = some d → usesOp d a = false)) := by
  unfold pairOk at h
  split at h
  · rename_i h1
    refine ⟨fun d hd hb => ?_, .inl h1⟩
    rw [hd, hb] at h
    simp at h
  · rename_i h1
    cases ha : a.o.dst with
    | some d =>
      rw [ha] at h
      simp only at h
      split at h
      · cases h
      · rename_i hu
        cases hb : b.o.dst with
        | some e =>
          rw [hb] at h
          simp only [Bool.and_eq_true, Bool.not_eq_true'] at h
          have hne : d ≠ e := beq_false.1 h.1
          exact ⟨fun d' hd' hb' => (by cases hd'; cases hb'; exact hne rfl), .inr ⟨fun d' hd' => (by cases hd'; exact hu), fun d' hd' => (by cases hd'; exact h.2)⟩⟩
        | none => exact ⟨fun d' _ hb' => (by cases hb'), .inr ⟨fun d' hd' => (by cases hd'; exact hu), fun d' hd' => (by cases hd')⟩⟩
    | none =>
      rw [ha] at h
      refine ⟨fun d' hd' => (by cases hd'), .inr ⟨fun d' hd' => (by cases hd'), fun d' hd' => ?_⟩⟩
      rw [hd'] at h
      simpa using h
end Go.Ex

/- What a drawn region's table of operations says. Conditions: none; laws of the executor. -/
namespace Go.Ex
section
variable {G : Gl}
theorem nthN_get : ∀ (l : List Nat) (i : Nat) (a : Nat), l[i]? = some a → nthN l i = a
  | [], _, _, h => by simp at h
  | b :: r, 0, a, h => by simp at h; subst h; rfl
  | b :: r, i + 1, a, h => by simp only [nthN]; exact nthN_get r i a (by simpa using h)
theorem maskOf_spec (n : Nat) (ms : List Nat) : ∀ (l : List Edge) (m : Nat), maskOf n ms l = some m →
    (∀ e ∈ l, Region.binds .any e = true → e.on < n ∧ Nat.testBit m e.on = true) ∧
    (∀ j, Nat.testBit m j = true → ∃ e ∈ l, Region.binds .any e = true ∧ (j = e.on ∨ Nat.testBit (nthN ms (n - 1 - e.on)) j = true))
  | [], m, h => by
    simp only [maskOf] at h
    cases h
    exact ⟨fun e he => (by cases he), fun j hj => (by rw [Nat.zero_testBit] at hj; cases hj)⟩
  | e :: r, m, h => by
    simp only [maskOf] at h
    split at h
    · cases h
    · rename_i m0 hm0
      obtain ⟨a, b⟩ := maskOf_spec n ms r m0 hm0
      split at h
      · rename_i hb
        cases h
        refine ⟨fun e' he' hb' => ?_, fun j hj => ?_⟩
        · cases he' with
          | head => rw [hb] at hb'; cases hb'
          | tail _ he' => exact a e' he' hb'
        · obtain ⟨e', h1, h2⟩ := b j hj
          exact ⟨e', List.mem_cons_of_mem _ h1, h2⟩
      · rename_i hb
        split at h
        · cases h
        · rename_i hlt
          have hlt' : e.on < n := by
            have : Nat.blt e.on n = true := hlt
            exact blt_true.1 this
          cases h
          have bits : ∀ j, Nat.testBit (Nat.lor m0 (Nat.lor (Nat.pow 2 e.on) (nthN ms (Nat.sub (Nat.sub n 1) e.on)))) j = (Nat.testBit m0 j || (decide (j = e.on) || Nat.testBit (nthN ms (n - 1 - e.on)) j)) := by
            intro j
            show Nat.testBit (m0 ||| (2 ^ e.on ||| nthN ms (n - 1 - e.on))) j = _
            rw [Nat.testBit_or, Nat.testBit_or, Nat.testBit_two_pow]
            congr 2
            rw [Bool.eq_iff_iff]
            simp
            exact eq_comm
          refine ⟨fun e' he' hb' => ?_, fun j hj => ?_⟩
          · cases he' with
            | head => exact ⟨hlt', by rw [bits]; simp⟩
            | tail _ he' =>
              obtain ⟨c1, c2⟩ := a e' he' hb'
              exact ⟨c1, by rw [bits, c2]; rfl⟩
          · rw [bits] at hj
            simp only [Bool.or_eq_true, decide_eq_true_eq] at hj
            rcases hj with hj | hj | hj
            · obtain ⟨e', h1, h2⟩ := b j hj
              exact ⟨e', List.mem_cons_of_mem _ h1, h2⟩
            · exact ⟨e, List.mem_cons_self, hb, .inl hj⟩
            · exact ⟨e, List.mem_cons_self, hb, .inr hj⟩
/-- the masks before place n, the last one first -/
def MsOk (R0 : List RI) (ms : List Nat) : Prop := ms = (R0.map (·.pre)).reverse
theorem risOf_spec (all : List Oper) : ∀ (l : List Oper) (R0 : List RI) (R : List RI), risOf G all R0.length (R0.map (·.pre)).reverse l = some R →
    R.length = l.length ∧ ∀ i x, R[i]? = some x → x.i = R0.length + i ∧ l[i]? = some x.o ∧ x.g = guardOf all x.o ∧ x.cl = clsOf G x.o.op ∧
      maskOf (R0.length + i) (((R0 ++ R.take i).map (·.pre)).reverse) x.o.after.toList = some x.pre
  | [], R0, R, h => by
    simp only [risOf] at h
    cases h
    exact ⟨rfl, fun i x hx => by simp at hx⟩
  | o :: r, R0, R, h => by
    simp only [risOf] at h
    split at h
    · cases h
    · rename_i m hm
      split at h
      · cases h
      · rename_i L hL
        cases h
        have e1 : m :: (R0.map (·.pre)).reverse = ((R0 ++ [(⟨R0.length, o, guardOf all o, m, clsOf G o.op⟩ : RI)]).map (·.pre)).reverse := by simp
        have e2 : Nat.succ R0.length = (R0 ++ [(⟨R0.length, o, guardOf all o, m, clsOf G o.op⟩ : RI)]).length := by simp
        rw [e1, e2] at hL
        obtain ⟨h1, h2⟩ := risOf_spec all r _ L hL
        refine ⟨by simp [h1], fun i x hx => ?_⟩
        cases i with
        | zero => simp at hx; subst hx; exact ⟨rfl, rfl, rfl, rfl, by simpa using hm⟩
        | succ i =>
          obtain ⟨c1, c2, c3, c4, c5⟩ := h2 i x (by simpa using hx)
          refine ⟨by simp at c1; omega, by simpa using c2, c3, c4, ?_⟩
          have e3 : R0.length + (i + 1) = (R0 ++ [(⟨R0.length, o, guardOf all o, m, clsOf G o.op⟩ : RI)]).length + i := by simp; omega
          rw [e3, ← c5]
          simp
end
end Go.Ex

/- Who may come next in a drawn region. Conditions: none; laws of the schedule. -/
namespace Go.Ex
section
variable {ops : Array Oper} {listed : Array Bool}
theorem effsOf_mem : ∀ {l : List RI} {x : RI}, x ∈ effsOf l → x ∈ l
  | [], x, h => by cases h
  | y :: r, x, h => by
    simp only [effsOf] at h
    split at h
    · cases h with
      | head => exact List.mem_cons_self
      | tail _ h => exact List.mem_cons_of_mem _ (effsOf_mem h)
    · exact List.mem_cons_of_mem _ (effsOf_mem h)
theorem atLevel_mem {es : List RI} {k : Nat} : ∀ {l : List RI} {x : RI}, x ∈ atLevel es k l → x ∈ l
  | [], x, h => by cases h
  | y :: r, x, h => by
    simp only [atLevel] at h
    split at h
    · exact List.mem_cons_of_mem _ (atLevel_mem h)
    · split at h
      · cases h with
        | head => exact List.mem_cons_self
        | tail _ h => exact List.mem_cons_of_mem _ (atLevel_mem h)
      · exact List.mem_cons_of_mem _ (atLevel_mem h)
theorem phases_mem {es all : List RI} : ∀ {r : List RI} {k : Nat} {x : RI}, (∀ y ∈ r, y ∈ all) → x ∈ phases es all k r → x ∈ all
  | [], k, x, _, h => atLevel_mem h
  | e :: r, k, x, hr, h => by
    simp only [phases] at h
    rcases List.mem_append.1 h with h | h
    · exact atLevel_mem h
    · cases h with
      | head => exact hr _ List.mem_cons_self
      | tail _ h => exact phases_mem (fun y hy => hr y (List.mem_cons_of_mem _ hy)) h
theorem ready_mem {i : Nat} : i ∈ Region.ready .any ops listed ↔ i < ops.size ∧ listed.getD i true = false ∧ ∃ o, ops[i]? = some o ∧ ∀ e ∈ o.after, Region.binds .any e = true → listed.getD e.on false = true := by
  unfold Region.ready
  rw [List.mem_filter, List.mem_range, Bool.and_eq_true]
  refine and_congr_right fun hi => ?_
  rw [Array.getElem?_eq_getElem hi]
  simp only [Option.map_some, Option.getD_some, Array.all_eq_true', Bool.or_eq_true, Bool.not_eq_true']
  refine and_congr_right fun _ => ?_
  constructor
  · intro h
    refine ⟨_, rfl, fun e he hb => ?_⟩
    rcases h e he with h | h
    · rw [hb] at h; cases h
    · exact h
  · rintro ⟨o, ho, h⟩ e he
    cases ho
    cases hb : Region.binds .any e with
    | false => exact .inl rfl
    | true => exact .inr (h e he hb)
end
end Go.Ex
namespace Go.Ex
/-- as long as one is left, one may come next -/
theorem ready_some {ops : Array Oper} {listed : Array Bool} (hs : listed.size = ops.size) (hback : ∀ i o, ops[i]? = some o → ∀ e ∈ o.after, Region.binds .any e = true → e.on < i) :
    ∀ (n i : Nat), i ≤ n → i < ops.size → listed.getD i true = false → ∃ j, j ∈ Region.ready .any ops listed := by
  intro n
  induction n with
  | zero =>
    intro i hi hlt hl
    refine ⟨i, ready_mem.2 ⟨hlt, hl, ops[i], Array.getElem?_eq_getElem hlt, fun e he hb => ?_⟩⟩
    have := hback i _ (Array.getElem?_eq_getElem hlt) e he hb
    omega
  | succ n ih =>
    intro i hi hlt hl
    by_cases hall : ∀ e ∈ (ops[i]).after, Region.binds .any e = true → listed.getD e.on false = true
    · exact ⟨i, ready_mem.2 ⟨hlt, hl, _, Array.getElem?_eq_getElem hlt, hall⟩⟩
    · obtain ⟨e, he, hb, hne⟩ : ∃ e, e ∈ (ops[i]).after ∧ Region.binds .any e = true ∧ listed.getD e.on false ≠ true := by
        simpa [Classical.not_forall] using hall
      have h1 := hback i _ (Array.getElem?_eq_getElem hlt) e he hb
      refine ih e.on (by omega) (by omega) ?_
      have h2 : e.on < listed.size := by omega
      simp only [Array.getD, h2, dif_pos] at hne ⊢
      simpa using hne
end Go.Ex
