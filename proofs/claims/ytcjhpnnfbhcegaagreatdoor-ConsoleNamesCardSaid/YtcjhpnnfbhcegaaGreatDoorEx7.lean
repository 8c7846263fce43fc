/- Regions whose order is drawn. Conditions: the tables are the program's; deeper runs are right. -/
import Derived.Test.YtcjhpnnfbhcegaaGreatDoorEx6
/- Drawn regions: what holds in the midst of one, and the table of its operations. Conditions: none; definitions and small laws. -/
namespace Go.Ex
open Go.RowKit (Below)

/-- what x looks at, when its turn comes: what those surely ahead of it have written, else what was there at the beginning -/
def View (all : List RI) (x : RI) (tm0 tm tmx : T SV) : Prop :=
  ∀ t, usesOp t x = true → (∀ z ∈ all, z.o.dst = some t → Nat.testBit x.pre z.i = true → tmx.get t = tm.get t) ∧
    ((∀ z ∈ all, z.o.dst = some t → Nat.testBit x.pre z.i = false) → tmx.get t = tm0.get t)

/-- the region's table -/
structure Tab (G : Gl) (ops : Array Oper) (tmP : T SV) (all : List RI) : Prop where
  at_ : ∀ x ∈ all, all[x.i]? = some x
  pairs : allPairs all = true
  op : ∀ x ∈ all, ops[x.i]? = some x.o
  gd : ∀ x ∈ all, x.g = guardOf ops.toList x.o
  cl : ∀ x ∈ all, x.cl = clsOf G x.o.op
  len : all.length = ops.size
  every : ∀ i, i < ops.size → ∃ x ∈ all, x.i = i
  back : ∀ x ∈ all, ∀ e ∈ x.o.after, Region.binds .any e = true → e.on < x.i
  pre : ∀ x ∈ all, ∀ j, Nat.testBit x.pre j = true → ∃ e ∈ x.o.after, Region.binds .any e = true ∧ (j = e.on ∨ ∃ y ∈ all, y.i = e.on ∧ Nat.testBit y.pre j = true)
  dstP : ∀ x ∈ all, ∀ t, x.o.dst = some t → tmP.get t = none
section
variable {G : Gl} {ops : Array Oper} {tmP : T SV} {all : List RI}
theorem Tab.eq (Tb : Tab G ops tmP all) {x y : RI} (hx : x ∈ all) (hy : y ∈ all) (h : x.i = y.i) : x = y := by
  have h1 := Tb.at_ x hx
  have h2 := Tb.at_ y hy
  rw [h, h2] at h1
  exact (Option.some.inj h1).symm
theorem Tab.dst (Tb : Tab G ops tmP all) {x y : RI} (hx : x ∈ all) (hy : y ∈ all) {d : Tmp} (h1 : x.o.dst = some d) (h2 : y.o.dst = some d) : x = y := by
  rcases Nat.lt_trichotomy x.i y.i with h | h | h
  · exact absurd h2 ((pairOk_spec (allPairs_spec Tb.pairs _ _ _ _ h (Tb.at_ x hx) (Tb.at_ y hy))).1 d h1)
  · exact Tb.eq hx hy h
  · exact absurd h1 ((pairOk_spec (allPairs_spec Tb.pairs _ _ _ _ h (Tb.at_ y hy) (Tb.at_ x hx))).1 d h2)
/-- who looks at what another writes has an order with it -/
theorem Tab.use (Tb : Tab G ops tmP all) {x z : RI} (hx : x ∈ all) (hz : z ∈ all) (hne : z ≠ x) {d : Tmp} (hd : z.o.dst = some d) (hu : usesOp d x = true) :
    Nat.testBit x.pre z.i = true ∨ Nat.testBit z.pre x.i = true := by
  rcases Nat.lt_trichotomy x.i z.i with h | h | h
  · rcases (pairOk_spec (allPairs_spec Tb.pairs _ _ _ _ h (Tb.at_ x hx) (Tb.at_ z hz))).2 with h1 | h1
    · exact .inr h1
    · rw [h1.2 d hd] at hu; cases hu
  · exact absurd (Tb.eq hx hz h).symm hne
  · rcases (pairOk_spec (allPairs_spec Tb.pairs _ _ _ _ h (Tb.at_ z hz) (Tb.at_ x hx))).2 with h1 | h1
    · exact .inl h1
    · rw [h1.1 d hd] at hu; cases hu
end

/-- the state in the midst of a region: listed: whom the machine has done; lr: whom the executor has still to do; acc, eff: whom it has done; B: the numbers of the blocks that are noted and not yet made -/
structure Dyn where
  listed : Array Bool
  lr : List RI
  acc : Nat
  eff : Nat
  pr : List Pr
  tm : T SV
  tmC : T SV
  ds : List ADef
  h : AH
  cp : CP
  σ : Sg
  w : World
  a : Go.Act
  cs : List Frame
  B : Nat → Option Nat

section
variable (P : Program) (G : Gl) (N : Nat) (C : FC) (ops : Array Oper) (all : List RI) (tm0 tmP : T SV) (nx0 : Nat) (b : Frame)
/-- what an operation came to that the executor has gone through, and the machine not yet -/
def Came (x : RI) (tmx : T SV) (v : SV) (B : Nat → Option Nat) (σ : Sg) (h : AH) (pr : List Pr) : Prop :=
  (wantedA tmx x.g = some false ∧ v = .tup []) ∨
  (wantedA tmx x.g = some true ∧ x.cl = .n ∧ opN G x.o.op tmx h = some v) ∨
  (wantedA tmx x.g = some true ∧ x.cl = .r ∧ opN G x.o.op tmx h = some v ∧ .rd x v tmx ∈ pr) ∨
  (wantedA tmx x.g = some true ∧ x.cl = .a ∧ ∃ hx obj, opE G x.o.op tmx hx = .val v (hx.new obj) ∧ B x.i = some hx.next ∧ nx0 ≤ hx.next ∧ hx.next < h.next ∧ σ hx.next = none ∧
        h.t.get hx.next = some obj ∧ .al x.i hx.next obj ∈ pr)
def Pend (x : RI) (D : Dyn) : Prop :=
  ∃ tmx v, View all x tm0 D.tm tmx ∧ (∀ d, x.o.dst = some d → d < C.nt ∧ D.tm.get d = some v) ∧ Came G nx0 x tmx v D.B D.σ D.h D.pr
structure St (D : Dyn) : Prop where
  size : D.listed.size = ops.size
  closed : ∀ x ∈ all, D.listed.getD x.i false = true → ∀ j, Nat.testBit x.pre j = true → D.listed.getD j false = true
  ord : ordOk (Nat.sub (Nat.pow 2 all.length) 1) D.lr D.acc D.eff = true
  inAll : ∀ x ∈ D.lr, x ∈ all
  aclosed : ∀ x ∈ all, Nat.testBit D.acc x.i = true → ∀ j, Nat.testBit x.pre j = true → Nat.testBit D.acc j = true
  accs : ∀ x ∈ all, Nat.testBit D.acc x.i = true ∨ x ∈ D.lr
  effs : ∀ x ∈ all, x.cl = .e → Nat.testBit D.acc x.i = true → Nat.testBit D.eff x.i = true
  done : ∀ x ∈ all, D.listed.getD x.i false = true → Nat.testBit D.acc x.i = true
  pend : ∀ x ∈ all, Nat.testBit D.acc x.i = true → D.listed.getD x.i false = false → Pend G C all tm0 nx0 x D
  inj : ∀ i j n, D.B i = some n → D.B j = some n → i = j
  binB : ∀ i n, D.B i = some n → n < D.h.next
  cd : ∀ x ∈ all, D.listed.getD x.i false = true → ∀ d, x.o.dst = some d → D.tmC.get d = D.tm.get d
  cu : ∀ t, (∀ x ∈ all, x.o.dst = some t → D.listed.getD x.i false = false) → D.tmC.get t = tm0.get t
  au : ∀ t, (∀ x ∈ all, x.o.dst = some t → Nat.testBit D.acc x.i = false) → D.tm.get t = tm0.get t
  tms : TmR D.σ D.tmC C.nt D.a.tmps
  heap : HR N D.σ D.h D.w
  glob : Glob D.σ
  mid : Mid P D.σ C tmP D.ds D.cp b D.a D.cs
  nx : nx0 ≤ D.h.next
end

section
variable {P : Program} {G : Gl} {N : Nat} {C : FC} {ops : Array Oper} {all : List RI} {tm0 tmP : T SV} {nx0 : Nat} {b : Frame} {D : Dyn}
/-- what is not yet done by the executor is not by the machine -/
theorem St.notListed (S : St P G N C ops all tm0 tmP nx0 b D) {x : RI} (hx : x ∈ all) (h : Nat.testBit D.acc x.i = false) : D.listed.getD x.i false = false := by
  cases hl : D.listed.getD x.i false with
  | false => rfl
  | true => rw [S.done x hx hl] at h; cases h
/-- one whose turn it is for the executor sees what it has -/
theorem St.view (S : St P G N C ops all tm0 tmP nx0 b D) (Tb : Tab G ops tmP all) {x : RI} (hx : x ∈ all) (h : Nat.testBit D.acc x.i = false) : View all x tm0 D.tm D.tm := by
  intro t hu
  refine ⟨fun _ _ _ _ => rfl, fun hn => S.au t fun z hz hd => ?_⟩
  cases ha : Nat.testBit D.acc z.i with
  | false => rfl
  | true =>
    have hne : z ≠ x := by rintro rfl; rw [ha] at h; cases h
    rcases Tb.use hx hz hne hd hu with h1 | h1
    · rw [hn z hz hd] at h1; cases h1
    · rw [S.aclosed z hz ha _ h1] at h; cases h
/-- what it sees is what the machine has -/
theorem St.agree (S : St P G N C ops all tm0 tmP nx0 b D) (Tb : Tab G ops tmP all) {x : RI} {tmx : T SV} (hx : x ∈ all) (hl : D.listed.getD x.i false = false)
    (hp : ∀ j, Nat.testBit x.pre j = true → D.listed.getD j false = true) (V : View all x tm0 D.tm tmx) : ∀ t, usesOp t x = true → tmx.get t = D.tmC.get t := by
  intro t hu
  by_cases hz : ∃ z ∈ all, z.o.dst = some t ∧ Nat.testBit x.pre z.i = true
  · obtain ⟨z, hz, hd, hb⟩ := hz
    rw [(V t hu).1 z hz hd hb, S.cd z hz (hp _ hb) t hd]
  · have hn : ∀ z ∈ all, z.o.dst = some t → Nat.testBit x.pre z.i = false := by
      intro z hz' hd
      cases hb : Nat.testBit x.pre z.i with
      | false => rfl
      | true => exact absurd ⟨z, hz', hd, hb⟩ hz
    rw [(V t hu).2 hn]
    refine (S.cu t fun z hz' hd => ?_).symm
    by_cases hne : z = x
    · rw [hne]; exact hl
    · rcases Tb.use hx hz' hne hd hu with h1 | h1
      · rw [hn z hz' hd] at h1; cases h1
      · cases hzl : D.listed.getD z.i false with
        | false => rfl
        | true => rw [S.closed z hz' hzl _ h1] at hl; cases hl
theorem agree_ops {x : RI} {tm tm' : T SV} (h : ∀ t, usesOp t x = true → tm.get t = tm'.get t) : Agree tm tm' x.o.op.operands.toList := by
  intro d hd
  refine h d ?_
  unfold usesOp
  rw [hd]
theorem agree_guard {x : RI} {tm tm' : T SV} (h : ∀ t, usesOp t x = true → tm.get t = tm'.get t) : ∀ t w, x.g = some (some t, w) → tm.get t = tm'.get t := by
  intro t w hg
  refine h t ?_
  unfold usesOp
  split
  · rfl
  · rw [hg]; exact beq_true.2 rfl
theorem wanted_agree {x : RI} {tm tm' : T SV} (h : ∀ t, usesOp t x = true → tm.get t = tm'.get t) : wantedA tm x.g = wantedA tm' x.g := by
  cases hg : x.g with
  | none => rfl
  | some p =>
    obtain ⟨t, w⟩ := p
    cases t with
    | none => rfl
    | some t => simp only [wantedA]; rw [agree_guard h t w hg]
/-- all that is surely ahead of one that may come next is done -/
theorem St.ready (S : St P G N C ops all tm0 tmP nx0 b D) (Tb : Tab G ops tmP all) {x : RI} (hx : x ∈ all) (hr : x.i ∈ Region.ready .any ops D.listed) :
    ∀ j, Nat.testBit x.pre j = true → D.listed.getD j false = true := by
  intro j hj
  obtain ⟨h1, h2, o, ho, hall⟩ := ready_mem.1 hr
  rw [Tb.op x hx] at ho
  cases ho
  obtain ⟨e, he, hb, hje⟩ := Tb.pre x hx j hj
  rcases hje with rfl | ⟨y, hy, hyi, hyj⟩
  · exact hall e he hb
  · exact S.closed y hy (by rw [hyi]; exact hall e he hb) j hyj
theorem ready_false {i : Nat} {listed : Array Bool} (hs : listed.size = ops.size) (hr : i ∈ Region.ready .any ops listed) : listed.getD i false = false := by
  obtain ⟨h1, h2, _⟩ := ready_mem.1 hr
  have : i < listed.size := by omega
  simp only [Array.getD, this, dif_pos] at h2 ⊢
  exact h2
/-- behind an effect comes only what is surely behind it -/
theorem ordOk_eff {full : Nat} : ∀ {l : List RI} {acc eff : Nat}, ordOk full l acc eff = true → ∀ y ∈ l, ∀ j, Nat.testBit eff j = true → Nat.testBit y.pre j = true
  | [], _, _, _, y, hy, _, _ => by cases hy
  | x :: r, acc, eff, h, y, hy, j, hj => by
    obtain ⟨h1, h2, h3, h4⟩ := ordOk_cons h
    cases hy with
    | head => exact h3 j hj
    | tail _ hy =>
      refine ordOk_eff h4 y hy j ?_
      cases x.cl <;> simp only <;> first | exact hj | (rw [bit_or, hj]; rfl)
end
end Go.Ex

/- Drawn regions: how the state moves. Conditions: none; laws of executor and machine. -/
namespace Go.Ex
open Go.RowKit (Below)
section
variable {P : Program} {G : Gl} {N : Nat} {C : FC} {ops : Array Oper} {all : List RI} {tm0 tmP : T SV} {nx0 : Nat} {b : Frame} {D : Dyn}

theorem setDst_get {nt : Nat} {tm tm' : T SV} {d : Option Tmp} {v : SV} (h : setDst nt tm d v = some tm') :
    (∀ t, d = some t → t < nt ∧ tm'.get t = some v) ∧ (∀ t, d ≠ some t → tm'.get t = tm.get t) := by
  cases d with
  | none => cases h; exact ⟨fun t e => (by cases e), fun t _ => rfl⟩
  | some d =>
    simp only [setDst] at h
    split at h
    · rename_i hd
      cases h
      refine ⟨fun t e => (by cases e; exact ⟨blt_true.1 hd, T.get_set_self _ _ _⟩), fun t ne => ?_⟩
      rw [T.get_set, if_neg]
      rintro rfl
      exact ne rfl
    · cases h
theorem setDst_some {nt : Nat} (tm : T SV) {d : Option Tmp} (v : SV) (h : ∀ t, d = some t → t < nt) : ∃ tm', setDst nt tm d v = some tm' := by
  cases d with
  | none => exact ⟨tm, rfl⟩
  | some d => exact ⟨tm.set d v, by simp only [setDst, blt_true.2 (h d rfl)]⟩
theorem set_getD {listed : Array Bool} {i j : Nat} (h : i ≠ j) (d : Bool) : (listed.setIfInBounds i true).getD j d = listed.getD j d := getD_set_ne d h

/-- the executor goes on, the machine does not -/
theorem St.exec (S : St P G N C ops all tm0 tmP nx0 b D) (Tb : Tab G ops tmP all) {x : RI} {r : List RI} {v : SV} {tm' : T SV} {h' : AH} {pr' : List Pr} {B' : Nat → Option Nat}
    (hlr : D.lr = x :: r) (hc : x.cl ≠ .e) (hset : setDst C.nt D.tm x.o.dst v = some tm') (hv : Came G nx0 x D.tm v B' D.σ h' pr')
    (hmono : ∀ y ∈ all, y.i ≠ x.i → ∀ tmy u, Came G nx0 y tmy u D.B D.σ D.h D.pr → Came G nx0 y tmy u B' D.σ h' pr')
    (hinj : ∀ i j n, B' i = some n → B' j = some n → i = j) (hbin : ∀ i n, B' i = some n → n < h'.next) (hheap : HR N D.σ h' D.w) (hn : D.h.next ≤ h'.next) :
    St P G N C ops all tm0 tmP nx0 b { D with lr := r, acc := Nat.lor D.acc (Nat.pow 2 x.i), pr := pr', tm := tm', h := h', B := B' } := by
  have hord := S.ord
  rw [hlr] at hord
  obtain ⟨o1, o2, o3, o4⟩ := ordOk_cons hord
  have hx : x ∈ all := S.inAll x (by rw [hlr]; exact List.mem_cons_self)
  have o4 : ordOk (Nat.sub (Nat.pow 2 all.length) 1) r (Nat.lor D.acc (Nat.pow 2 x.i)) D.eff = true := by
    cases hcl : x.cl with
    | e => exact absurd hcl hc
    | _ => rw [hcl] at o4; exact o4
  obtain ⟨g1, g2⟩ := setDst_get hset
  -- a place that another one writes
  have other : ∀ z ∈ all, z ≠ x → ∀ t, z.o.dst = some t → tm'.get t = D.tm.get t := by
    intro z hz hne t hd
    refine g2 t fun hxd => hne (Tb.dst hz hx hd hxd)
  have accne : ∀ z, Nat.testBit D.acc z.i = true → z ≠ x := by
    rintro z hz rfl
    rw [hz] at o1
    cases o1
  refine ⟨S.size, S.closed, o4, fun y hy => S.inAll y (by rw [hlr]; exact List.mem_cons_of_mem _ hy), fun y hy ha j hj => ?_, fun y hy => ?_, fun y hy he ha => ?_, fun y hy hl => ?_, fun y hy ha hl => ?_,
    hinj, hbin, fun y hy hl d hd => ?_, S.cu, fun t ht => ?_, S.tms, hheap, S.glob, S.mid, Nat.le_trans S.nx hn⟩
  · simp only at ha ⊢
    rw [bit_or] at ha ⊢
    by_cases hyx : y.i = x.i
    · have := Tb.eq hy hx hyx
      subst this
      rw [o2 j hj]; rfl
    · simp only [hyx, decide_false, Bool.or_false] at ha
      rw [S.aclosed y hy ha j hj]; rfl
  · simp only
    rcases S.accs y hy with h1 | h1
    · exact .inl (by rw [bit_or, h1]; rfl)
    · rw [hlr] at h1
      cases h1 with
      | head => exact .inl (by rw [bit_or]; simp)
      | tail _ h1 => exact .inr h1
  · simp only at ha ⊢
    rw [bit_or] at ha
    by_cases hyx : y.i = x.i
    · exact absurd ((Tb.eq hy hx hyx) ▸ he) hc
    · simp only [hyx, decide_false, Bool.or_false] at ha
      exact S.effs y hy he ha
  · simp only at hl ⊢
    rw [bit_or, S.done y hy hl]; rfl
  · simp only at ha hl
    rw [bit_or] at ha
    by_cases hyx : y.i = x.i
    · have := Tb.eq hy hx hyx
      subst this
      refine ⟨D.tm, v, fun t hu => ⟨fun z hz hd hb => (other z hz (accne z (o2 _ hb)) t hd).symm, fun hn => (S.view Tb hy o1 t hu).2 hn⟩, g1, hv⟩
    · simp only [hyx, decide_false, Bool.or_false] at ha
      obtain ⟨tmy, u, V, hd, hca⟩ := S.pend y hy ha hl
      refine ⟨tmy, u, fun t hu => ⟨fun z hz hd' hb => ?_, (V t hu).2⟩, fun d hyd => ?_, hmono y hy hyx tmy u hca⟩
      · rw [(V t hu).1 z hz hd' hb]
        exact (other z hz (accne z (S.aclosed y hy ha _ hb)) t hd').symm
      · obtain ⟨q1, q2⟩ := hd d hyd
        exact ⟨q1, (other y hy (accne y ha) d hyd).trans q2⟩
  · simp only at hl ⊢
    rw [other y hy (accne y (S.done y hy hl)) d hd]
    exact S.cd y hy hl d hd
  · simp only at ht ⊢
    have h1 : x.o.dst ≠ some t := by
      intro hd
      have := ht x hx hd
      rw [bit_or] at this
      simp at this
    rw [g2 t h1]
    refine S.au t fun z hz hd => ?_
    have := ht z hz hd
    rw [bit_or, Bool.or_eq_false_iff] at this
    exact this.1

/-- the machine does what the executor has done -/
theorem St.mach (S : St P G N C ops all tm0 tmP nx0 b D) (Tb : Tab G ops tmP all) {x : RI} {v : SV} {σ' : Sg} {w' : World} {y : Value}
    (hx : x ∈ all) (hr : x.i ∈ Region.ready .any ops D.listed) (hacc : Nat.testBit D.acc x.i = true) (hd : ∀ d, x.o.dst = some d → d < C.nt ∧ D.tm.get d = some v) (hv : VR σ' v y) (hle : D.σ.le σ')
    (hheap : HR N σ' D.h w') (hg : ∀ z ∈ all, z.i ≠ x.i → ∀ tmz u, Came G nx0 z tmz u D.B D.σ D.h D.pr → Came G nx0 z tmz u D.B σ' D.h D.pr) :
    ∃ tmC', St P G N C ops all tm0 tmP nx0 b { D with listed := D.listed.setIfInBounds x.i true, tmC := tmC', σ := σ', w := w', a := D.a.put x.o.dst y } := by
  obtain ⟨tmC', hset⟩ := setDst_some (nt := C.nt) D.tmC v fun t ht => (hd t ht).1
  obtain ⟨g1, g2⟩ := setDst_get hset
  have hlt : x.i < D.listed.size := by rw [S.size]; exact (ready_mem.1 hr).1
  have self : (D.listed.setIfInBounds x.i true).getD x.i false = true := by simp [Array.getD, hlt]
  have mono : ∀ {j}, D.listed.getD j false = true → (D.listed.setIfInBounds x.i true).getD j false = true := fun h => getD_set_true h
  have unl : ∀ {z : RI}, (D.listed.setIfInBounds x.i true).getD z.i false = false → z.i ≠ x.i ∧ D.listed.getD z.i false = false := by
    intro z h
    by_cases hz : z.i = x.i
    · rw [hz, self] at h; cases h
    · rw [set_getD (Ne.symm hz)] at h; exact ⟨hz, h⟩
  have lis : ∀ {z : RI}, (D.listed.setIfInBounds x.i true).getD z.i false = true → z.i = x.i ∨ D.listed.getD z.i false = true := by
    intro z h
    by_cases hz : z.i = x.i
    · exact .inl hz
    · rw [set_getD (Ne.symm hz)] at h; exact .inr h
  refine ⟨tmC', ⟨by simp [S.size], fun z hz hl j hj => ?_, S.ord, S.inAll, S.aclosed, S.accs, S.effs, fun z hz hl => ?_, fun z hz ha hl => ?_, S.inj, S.binB, fun z hz hl d hzd => ?_, fun t ht => ?_, S.au, ?_, hheap, S.glob.mono hle, ?_, S.nx⟩⟩
  · rcases lis hl with h1 | h1
    · exact mono (S.ready Tb hx hr j (by rw [← Tb.eq hz hx h1]; exact hj))
    · exact mono (S.closed z hz h1 j hj)
  · rcases lis hl with h1 | h1
    · simp only; rw [h1]; exact hacc
    · exact S.done z hz h1
  · obtain ⟨h1, h2⟩ := unl hl
    obtain ⟨tmz, u, V, q1, q2⟩ := S.pend z hz ha h2
    exact ⟨tmz, u, V, q1, hg z hz h1 tmz u q2⟩
  · simp only
    by_cases hzx : z.i = x.i
    · have := Tb.eq hz hx hzx
      subst this
      rw [(g1 d hzd).2, (hd d hzd).2]
    · rw [g2 d fun hxd => hzx (by rw [Tb.dst hz hx hzd hxd])]
      rcases lis hl with h1 | h1
      · exact absurd h1 hzx
      · exact S.cd z hz h1 d hzd
  · simp only at ht ⊢
    have h1 : x.o.dst ≠ some t := by
      intro hxd
      have := ht x hx hxd
      rw [self] at this
      cases this
    rw [g2 t h1]
    exact S.cu t fun z hz hzd => (unl (ht z hz hzd)).2
  · exact TmR.put (S.tms.mono hle) hset hv
  · exact (S.mid.mono hle).put (Tb.dstP x hx)

/-- an effect: both go on -/
theorem St.both (S : St P G N C ops all tm0 tmP nx0 b D) (Tb : Tab G ops tmP all) {x : RI} {r : List RI} {v : SV} {tm' : T SV} {ds' : List ADef} {h' : AH} {cp' : CP} {σ' : Sg} {w' : World} {y : Value} {Df : List Deferred} {cs' : List Frame}
    (hlr : D.lr = x :: r) (hc : x.cl = .e) (hr : x.i ∈ Region.ready .any ops D.listed) (hset : setDst C.nt D.tm x.o.dst v = some tm') (hv : VR σ' v y) (hle : D.σ.le σ')
    (hheap : HR N σ' h' w') (hn : D.h.next ≤ h'.next) (hM : Mid P σ' C tmP ds' cp' b { D.a with defers := Df } cs')
    (hg : ∀ z ∈ all, z.i ≠ x.i → D.listed.getD z.i false = false → ∀ tmz u, Came G nx0 z tmz u D.B D.σ D.h D.pr → Came G nx0 z tmz u D.B σ' h' D.pr) :
    ∃ tmC', St P G N C ops all tm0 tmP nx0 b { D with listed := D.listed.setIfInBounds x.i true, lr := r, acc := Nat.lor D.acc (Nat.pow 2 x.i), eff := Nat.lor D.eff (Nat.pow 2 x.i), tm := tm', tmC := tmC', ds := ds', h := h', cp := cp', σ := σ', w := w', a := ({ D.a with defers := Df } : Go.Act).put x.o.dst y, cs := cs' } := by
  have hord := S.ord
  rw [hlr] at hord
  obtain ⟨o1, o2, o3, o4⟩ := ordOk_cons hord
  rw [hc] at o4
  simp only at o4
  have hx : x ∈ all := S.inAll x (by rw [hlr]; exact List.mem_cons_self)
  obtain ⟨e1, e2⟩ := setDst_get hset
  obtain ⟨tmC', hsetC⟩ := setDst_some (nt := C.nt) D.tmC v fun t ht => (e1 t ht).1
  obtain ⟨g1, g2⟩ := setDst_get hsetC
  have other : ∀ z ∈ all, z ≠ x → ∀ t, z.o.dst = some t → tm'.get t = D.tm.get t := by
    intro z hz hne t hd
    refine e2 t fun hxd => hne (Tb.dst hz hx hd hxd)
  have accne : ∀ z, Nat.testBit D.acc z.i = true → z ≠ x := by
    rintro z hz rfl
    rw [hz] at o1
    cases o1
  have hlt : x.i < D.listed.size := by rw [S.size]; exact (ready_mem.1 hr).1
  have self : (D.listed.setIfInBounds x.i true).getD x.i false = true := by simp [Array.getD, hlt]
  have mono : ∀ {j}, D.listed.getD j false = true → (D.listed.setIfInBounds x.i true).getD j false = true := fun h => getD_set_true h
  have unl : ∀ {z : RI}, (D.listed.setIfInBounds x.i true).getD z.i false = false → z.i ≠ x.i ∧ D.listed.getD z.i false = false := by
    intro z h
    by_cases hz : z.i = x.i
    · rw [hz, self] at h; cases h
    · rw [set_getD (Ne.symm hz)] at h; exact ⟨hz, h⟩
  have lis : ∀ {z : RI}, (D.listed.setIfInBounds x.i true).getD z.i false = true → z.i = x.i ∨ D.listed.getD z.i false = true := by
    intro z h
    by_cases hz : z.i = x.i
    · exact .inl hz
    · rw [set_getD (Ne.symm hz)] at h; exact .inr h
  refine ⟨tmC', ⟨by simp [S.size], fun z hz hl j hj => ?_, o4, fun z hz => S.inAll z (by rw [hlr]; exact List.mem_cons_of_mem _ hz), fun z hz ha j hj => ?_, fun z hz => ?_, fun z hz he ha => ?_, fun z hz hl => ?_, fun z hz ha hl => ?_,
    S.inj, fun i n hi => Nat.lt_of_lt_of_le (S.binB i n hi) hn, fun z hz hl d hzd => ?_, fun t ht => ?_, fun t ht => ?_, ?_, hheap, S.glob.mono hle, ?_, Nat.le_trans S.nx hn⟩⟩
  · rcases lis hl with h1 | h1
    · exact mono (S.ready Tb hx hr j (by rw [← Tb.eq hz hx h1]; exact hj))
    · exact mono (S.closed z hz h1 j hj)
  · simp only at ha ⊢
    rw [bit_or] at ha ⊢
    by_cases hyx : z.i = x.i
    · have := Tb.eq hz hx hyx
      subst this
      rw [o2 j hj]; rfl
    · simp only [hyx, decide_false, Bool.or_false] at ha
      rw [S.aclosed z hz ha j hj]; rfl
  · simp only
    rcases S.accs z hz with h1 | h1
    · exact .inl (by rw [bit_or, h1]; rfl)
    · rw [hlr] at h1
      cases h1 with
      | head => exact .inl (by rw [bit_or]; simp)
      | tail _ h1 => exact .inr h1
  · simp only at ha ⊢
    rw [bit_or] at ha ⊢
    by_cases hyx : z.i = x.i
    · simp [hyx]
    · simp only [hyx, decide_false, Bool.or_false] at ha
      rw [S.effs z hz he ha]; rfl
  · simp only at hl ⊢
    rw [bit_or]
    rcases lis hl with h1 | h1
    · simp [h1]
    · rw [S.done z hz h1]; rfl
  · obtain ⟨h1, h2⟩ := unl hl
    simp only at ha
    rw [bit_or] at ha
    simp only [h1, decide_false, Bool.or_false] at ha
    obtain ⟨tmz, u, V, q1, q2⟩ := S.pend z hz ha h2
    refine ⟨tmz, u, fun t hu => ⟨fun z' hz' hd' hb => ?_, (V t hu).2⟩, fun d hyd => ?_, hg z hz h1 h2 tmz u q2⟩
    · rw [(V t hu).1 z' hz' hd' hb]
      exact (other z' hz' (accne z' (S.aclosed z hz ha _ hb)) t hd').symm
    · obtain ⟨p1, p2⟩ := q1 d hyd
      exact ⟨p1, (other z hz (accne z ha) d hyd).trans p2⟩
  · simp only
    by_cases hzx : z.i = x.i
    · have := Tb.eq hz hx hzx
      subst this
      rw [(g1 d hzd).2, (e1 d hzd).2]
    · have hne : x.o.dst ≠ some d := fun hxd => hzx (by rw [Tb.dst hz hx hzd hxd])
      rw [g2 d hne, e2 d hne]
      rcases lis hl with h1 | h1
      · exact absurd h1 hzx
      · exact S.cd z hz h1 d hzd
  · simp only at ht ⊢
    have h1 : x.o.dst ≠ some t := by
      intro hxd
      have := ht x hx hxd
      rw [self] at this
      cases this
    rw [g2 t h1]
    exact S.cu t fun z hz hzd => (unl (ht z hz hzd)).2
  · simp only at ht ⊢
    have h1 : x.o.dst ≠ some t := by
      intro hd
      have := ht x hx hd
      rw [bit_or] at this
      simp at this
    rw [e2 t h1]
    refine S.au t fun z hz hd => ?_
    have := ht z hz hd
    rw [bit_or, Bool.or_eq_false_iff] at this
    exact this.1
  · exact TmR.put (a := { D.a with defers := Df }) (S.tms.mono hle) hsetC hv
  · exact hM.put (Tb.dstP x hx)
end
end Go.Ex

/- Drawn regions: the executor alone, up to the next effect; the machine alone, with what was done ahead. Conditions: the tables are the program's. -/
namespace Go.Ex
open Go.RowKit (Below)
section
variable {P : Program} {G : Gl} {N : Nat} {C : FC} {ops : Array Oper} {all : List RI} {tm0 tmP : T SV} {nx0 : Nat} {b : Frame} {D : Dyn} {run : RunT} {k : List AItem} {l : List Fin1}

theorem doSet_ok {nt : Nat} {dst : Option Tmp} {v : SV} {ih : Rest} {pr : List Pr} {tm : T SV} {ds : List ADef} {h : AH} {cp : CP} (e : doSet nt dst v ih pr tm ds h cp = .ok l) :
    ∃ tm', setDst nt tm dst v = some tm' ∧ ih pr tm' ds h cp = .ok l := by
  unfold doSet at e
  split at e
  · rename_i tm' h1; exact ⟨tm', h1, e⟩
  · cases e
theorem regOp_ok {x : RI} {ih : Rest} {pr : List Pr} {tm : T SV} {ds : List ADef} {h : AH} {cp : CP} (e : regOp G run C tmP x ih pr tm ds h cp = .ok l) :
    (wantedA tm x.g = some true ∧ regDo G x.cl run C tmP x ih pr tm ds h cp = .ok l) ∨ (wantedA tm x.g = some false ∧ doSet C.nt x.o.dst (.tup []) ih pr tm ds h cp = .ok l) := by
  unfold regOp at e
  split at e
  · rename_i hg; rw [hg]; exact .inl ⟨rfl, e⟩
  · rename_i g hg
    rw [hg]
    unfold regG at e
    split at e
    · cases e
    · rename_i h1; exact .inl ⟨h1, e⟩
    · rename_i h1; exact .inr ⟨h1, e⟩
theorem cls_n {o : Op} (h : clsOf G o = .n) : isNew G o = false ∧ isEff G o = false ∧ isRead G o = false := by
  unfold clsOf at h
  split at h
  · cases h
  · split at h
    · cases h
    · split at h
      · cases h
      · rename_i h1 _ h2 _ h3; exact ⟨h1, h2, h3⟩
theorem cls_a {o : Op} (h : clsOf G o = .a) : isNew G o = true := by
  unfold clsOf at h
  split at h
  · rename_i a; exact a
  · split at h
    · cases h
    · split at h <;> cases h
theorem new_knows {h : AH} {o : AObj} (hn : h.t.get h.next = none) : Knows h (h.new o) := by
  intro c o' e
  rw [AH.new_t, if_neg]
  · exact e
  · rintro rfl; rw [hn] at e; cases e
/-- what came of the others stays, as the notes grow and a new block is noted -/
theorem Came.more {y : RI} {tmy : T SV} {u : SV} {B B' : Nat → Option Nat} {σ : Sg} {h h' : AH} {pr pr' : List Pr} (c : Came G nx0 y tmy u B σ h pr) (hk : Knows h h') (hn : h.next ≤ h'.next)
    (hpr : ∀ p ∈ pr, p ∈ pr') (hB : B' y.i = B y.i) : Came G nx0 y tmy u B' σ h' pr' := by
  rcases c with c | ⟨c1, c2, c3⟩ | ⟨c1, c2, c3, c4⟩ | ⟨c1, c2, hx, obj, q1, q2, q3, q4, q5, q6, q7⟩
  · exact .inl c
  · exact .inr (.inl ⟨c1, c2, hk.opN c3⟩)
  · exact .inr (.inr (.inl ⟨c1, c2, hk.opN c3, hpr _ c4⟩))
  · exact .inr (.inr (.inr ⟨c1, c2, hx, obj, q1, hB.trans q2, q3, Nat.lt_of_lt_of_le q4 hn, q5, hk _ _ q6, hpr _ q7⟩))
theorem knows_refl (h : AH) : Knows h h := fun _ _ e => e

theorem flush1 (K : GlOk P G) (S : St P G N C ops all tm0 tmP nx0 b D) (Tb : Tab G ops tmP all) {x : RI} {r : List RI} (hlr : D.lr = x :: r) (hc : x.cl ≠ .e)
    (e : regRun G run C k tmP (x :: r) D.pr D.tm D.ds D.h D.cp = .ok l) :
    ∃ acc' pr' tm' h' B', St P G N C ops all tm0 tmP nx0 b { D with lr := r, acc := acc', pr := pr', tm := tm', h := h', B := B' } ∧ regRun G run C k tmP r pr' tm' D.ds h' D.cp = .ok l := by
  have hx : x ∈ all := S.inAll x (by rw [hlr]; exact List.mem_cons_self)
  have e1 : regOp G run C tmP x (regRun G run C k tmP r) D.pr D.tm D.ds D.h D.cp = .ok l := e
  have keep : ∀ y ∈ all, y.i ≠ x.i → ∀ tmy u, Came G nx0 y tmy u D.B D.σ D.h D.pr → Came G nx0 y tmy u D.B D.σ D.h D.pr := fun _ _ _ _ _ h => h
  rcases regOp_ok e1 with ⟨hw, e2⟩ | ⟨hw, e2⟩
  · cases hcl : x.cl with
    | e => exact absurd hcl hc
    | n =>
      rw [hcl] at e2
      have e3 : doN G run C tmP x (regRun G run C k tmP r) D.pr D.tm D.ds D.h D.cp = .ok l := e2
      unfold doN at e3
      split at e3
      · rename_i v hv
        obtain ⟨tm', hset, e4⟩ := doSet_ok e3
        exact ⟨_, _, _, _, _, S.exec Tb hlr hc hset (.inr (.inl ⟨hw, hcl, hv⟩)) keep S.inj S.binB S.heap (Nat.le_refl _), e4⟩
      · cases e3
    | r =>
      rw [hcl] at e2
      have e3 : doR G run C tmP x (regRun G run C k tmP r) D.pr D.tm D.ds D.h D.cp = .ok l := e2
      unfold doR at e3
      split at e3
      · rename_i v hv
        obtain ⟨tm', hset, e4⟩ := doSet_ok e3
        refine ⟨_, _, _, _, _, S.exec Tb hlr hc hset (.inr (.inr (.inl ⟨hw, hcl, hv, List.mem_cons_self⟩))) (fun y _ _ tmy u h => ?_) S.inj S.binB S.heap (Nat.le_refl _), e4⟩
        exact h.more (knows_refl _) (Nat.le_refl _) (fun p hp => List.mem_cons_of_mem _ hp) rfl
      · cases e3
    | a =>
      rw [hcl] at e2
      have e3 : doA G run C tmP x (regRun G run C k tmP r) D.pr D.tm D.ds D.h D.cp = .ok l := e2
      unfold doA at e3
      split at e3
      · cases e3
      · rename_i hnx
        split at e3
        · rename_i v h' hop
          obtain ⟨obj, ho, hnew⟩ := new_ok (P := P) (nt := C.nt) K (o := x.o) hop (cls_a ((Tb.cl x hx).symm.trans hcl))
          subst ho
          unfold doA2 at e3
          rw [AH.new_t, if_pos rfl] at e3
          simp only at e3
          obtain ⟨tm', hset, e4⟩ := doSet_ok e3
          have hBn : ∀ i, D.B i ≠ some D.h.next := fun i hi => Nat.lt_irrefl _ (S.binB i _ hi)
          refine ⟨_, _, _, _, fun i => if i = x.i then some D.h.next else D.B i, S.exec (B' := fun i => if i = x.i then some D.h.next else D.B i) Tb hlr hc hset
            (.inr (.inr (.inr ⟨hw, hcl, D.h, obj, hop, by simp, S.nx, by rw [AH.new_next]; omega, S.heap.fresh _ (Nat.le_refl _), by rw [AH.new_t, if_pos rfl], List.mem_cons_self⟩)))
            (fun y _ hne tmy u h => ?_) (fun i j n hi hj => ?_) (fun i n hi => ?_) (S.heap.newGhost obj) (by rw [AH.new_next]; omega), e4⟩
          · exact h.more (new_knows hnx) (by rw [AH.new_next]; omega) (fun p hp => List.mem_cons_of_mem _ hp) (by simp only [if_neg hne])
          · by_cases h1 : i = x.i <;> by_cases h2 : j = x.i
            · rw [h1, h2]
            · rw [if_pos h1] at hi; rw [if_neg h2] at hj; cases hi; exact absurd hj (hBn j)
            · rw [if_neg h1] at hi; rw [if_pos h2] at hj; cases hj; exact absurd hi (hBn i)
            · rw [if_neg h1] at hi; rw [if_neg h2] at hj; exact S.inj i j n hi hj
          · rw [AH.new_next]
            by_cases h1 : i = x.i
            · rw [if_pos h1] at hi; cases hi; omega
            · rw [if_neg h1] at hi; have := S.binB i n hi; omega
        · cases e3
  · obtain ⟨tm', hset, e4⟩ := doSet_ok e2
    exact ⟨_, _, _, _, _, S.exec Tb hlr hc hset (.inl ⟨hw, rfl⟩) keep S.inj S.binB S.heap (Nat.le_refl _), e4⟩

theorem flush (K : GlOk P G) (Tb : Tab G ops tmP all) : ∀ (n : Nat) (D : Dyn), D.lr.length = n → St P G N C ops all tm0 tmP nx0 b D → regRun G run C k tmP D.lr D.pr D.tm D.ds D.h D.cp = .ok l →
    ∃ lr' acc' pr' tm' h' B', St P G N C ops all tm0 tmP nx0 b { D with lr := lr', acc := acc', pr := pr', tm := tm', h := h', B := B' } ∧ regRun G run C k tmP lr' pr' tm' D.ds h' D.cp = .ok l ∧
      (lr' = [] ∨ ∃ x r, lr' = x :: r ∧ x.cl = .e) := by
  intro n
  induction n with
  | zero =>
    intro D hn S e
    have : D.lr = [] := List.length_eq_zero_iff.1 hn
    exact ⟨D.lr, D.acc, D.pr, D.tm, D.h, D.B, S, e, .inl this⟩
  | succ n ih =>
    intro D hn S e
    cases hlr : D.lr with
    | nil => rw [hlr] at hn; simp at hn
    | cons x r =>
      by_cases hc : x.cl = .e
      · exact ⟨D.lr, D.acc, D.pr, D.tm, D.h, D.B, S, e, .inr ⟨x, r, hlr, hc⟩⟩
      · rw [hlr] at e
        obtain ⟨acc', pr', tm', h', B', S', e'⟩ := flush1 K S Tb hlr hc e
        rw [hlr] at hn
        exact ih { D with lr := r, acc := acc', pr := pr', tm := tm', h := h', B := B' } (by simpa using hn) S' e'

/-- the machine does one that the executor has done -/
theorem mach1 (K : GlOk P G) (S : St P G N C ops all tm0 tmP nx0 b D) (Tb : Tab G ops tmP all) {x : RI} (hx : x ∈ all) (hr : x.i ∈ Region.ready .any ops D.listed) (hacc : Nat.testBit D.acc x.i = true) (rest : List Nat) (kk : List Item) :
    ∃ tmC' σ' w' y, St P G N C ops all tm0 tmP nx0 b { D with listed := D.listed.setIfInBounds x.i true, tmC := tmC', σ := σ', w := w', a := D.a.put x.o.dst y } ∧ Sg.up nx0 D.σ σ' ∧ Below N D.w w' ∧
      step P (lone (b.atR D.a (.inRegion ops (x.i :: rest) :: kk)) D.cs D.w) = .next (lone (b.atR (D.a.put x.o.dst y) (.inRegion ops rest :: kk)) D.cs w') := by
  have hl := ready_false S.size hr
  have hpre := S.ready Tb hx hr
  obtain ⟨tmx, v, V, hd, hca⟩ := S.pend x hx hacc hl
  have hag := S.agree Tb hx hl hpre V
  have hops := Tb.op x hx
  have hwt : ∀ bb, wantedA tmx x.g = some bb → Region.wanted x.o (yielded ops D.a.tmps) = bb := by
    intro bb hb
    refine guard_ok (tm := tmx) S.tms (fun t w hg => agree_guard hag t w ?_) (by rw [← Tb.gd x hx]; exact hb)
    rw [Tb.gd x hx]; exact hg
  have same : ∀ z ∈ all, z.i ≠ x.i → ∀ tmz u, Came G nx0 z tmz u D.B D.σ D.h D.pr → Came G nx0 z tmz u D.B D.σ D.h D.pr := fun _ _ _ _ _ h => h
  have value : wantedA tmx x.g = some true → opN G x.o.op tmx D.h = some v → ∃ tmC' σ' w' y, St P G N C ops all tm0 tmP nx0 b { D with listed := D.listed.setIfInBounds x.i true, tmC := tmC', σ := σ', w := w', a := D.a.put x.o.dst y } ∧ Sg.up nx0 D.σ σ' ∧ Below N D.w w' ∧
      step P (lone (b.atR D.a (.inRegion ops (x.i :: rest) :: kk)) D.cs D.w) = .next (lone (b.atR (D.a.put x.o.dst y) (.inRegion ops rest :: kk)) D.cs w') := by
    intro hw hv
    obtain ⟨y, h1, h2⟩ := stepN_ok (P := P) (C := C) (x := x) (b := b) (cs := D.cs) (kk := kk) (rest := rest) K S.heap S.glob S.tms (agree_ops hag) hops (hwt _ hw) hv
    obtain ⟨tmC', S'⟩ := S.mach Tb hx hr hacc hd h1 (Sg.le_refl _) S.heap same
    exact ⟨tmC', D.σ, D.w, y, S', Sg.up_refl _ _, Below.refl _ _, h2⟩
  rcases hca with ⟨hw, rfl⟩ | ⟨hw, _, hv⟩ | ⟨hw, _, hv, _⟩ | ⟨hw, hcl, hx0, obj, q1, q2, q3, q4, q5, q6, q7⟩
  · obtain ⟨tmC', S'⟩ := S.mach Tb hx hr hacc hd (undef_vr _) (Sg.le_refl _) S.heap same
    refine ⟨tmC', D.σ, D.w, undef, S', Sg.up_refl _ _, Below.refl _ _, ?_⟩
    have := stepR_op_skip (P := P) (b := b) (a := D.a) (k := kk) (cs := D.cs) (w := D.w) (ops := ops) (i := x.i) (rest := rest) (by rw [hops]; exact hwt _ hw)
    rw [hops, Option.bind_some] at this
    exact this
  · exact value hw hv
  · exact value hw hv
  · have hNew := cls_a ((Tb.cl x hx).symm.trans hcl)
    have q1' : opE G x.o.op D.tmC hx0 = .val v (hx0.new obj) := by rw [← opE_congr (agree_ops hag)]; exact q1
    obtain ⟨obj', ho, hnew⟩ := new_ok (P := P) (nt := C.nt) K (o := x.o) q1' hNew
    have hoo : obj' = obj := by
      have h3 : (hx0.new obj).t.get hx0.next = (hx0.new obj').t.get hx0.next := by rw [ho]
      rw [AH.new_t, AH.new_t, if_pos rfl, if_pos rfl] at h3
      cases h3
      rfl
    subst hoo
    obtain ⟨n, y, w', ob, p1, p2, p3, p4, p5⟩ := hnew D.σ D.a.tmps D.w S.tms S.glob q5
    have hH := S.heap.ghost q6 q5 q4 p2 p4
    have hup : Sg.up nx0 D.σ (D.σ.put hx0.next (D.w.heap.size, 0, n)) := Sg.up_put _ q5 q3
    obtain ⟨tmC', S'⟩ := S.mach Tb hx hr hacc hd p5 hup.1 hH (fun z hz hne tmz u h => by
      rcases h with c | c | c | ⟨c1, c2, hz0, obz, r1, r2, r3, r4, r5, r6, r7⟩
      · exact .inl c
      · exact .inr (.inl c)
      · exact .inr (.inr (.inl c))
      · refine .inr (.inr (.inr ⟨c1, c2, hz0, obz, r1, r2, r3, r4, ?_, r6, r7⟩))
        rw [Sg.put_other _ _ fun h => hne (S.inj _ _ _ r2 (by rw [h]; exact q2))]
        exact r5)
    refine ⟨tmC', _, w', y, S', hup, p3.mono S.heap.big.2, stepX_val hops (hwt _ hw) (.inr fun c hc => ?_) p1 rfl⟩
    rw [hc] at hNew
    cases hNew
end
end Go.Ex

/- Drawn regions: every order that the machine may take. Conditions: the tables are the program's; deeper runs are right. -/
namespace Go.Ex
open Go.RowKit (Below)
section
variable {P : Program} {G : Gl} {N : Nat} {C : FC} {ops : Array Oper} {all : List RI} {tm0 tmP : T SV} {nx0 : Nat} {b : Frame} {run : RunT} {k : List AItem} {l : List Fin1} {kk : List Item}

theorem promises_spec {pre : Nat} {h : AH} : ∀ {pr : List Pr}, promises G pre h pr = true →
    (∀ x v tm, .rd x v tm ∈ pr → Nat.testBit pre x.i = false → opN G x.o.op tm h = some v) ∧ (∀ i b o, .al i b o ∈ pr → Nat.testBit pre i = false → h.t.get b = some o)
  | [], _ => ⟨fun _ _ _ h => (by cases h), fun _ _ _ h => (by cases h)⟩
  | .rd r v tm :: rest, e => by
    simp only [promises] at e
    have key : promises G pre h rest = true ∧ (Nat.testBit pre r.i = false → opN G r.o.op tm h = some v) := by
      split at e
      · rename_i hb
        exact ⟨e, fun h0 => by rw [hb] at h0; cases h0⟩
      · split at e
        · rename_i v' hv
          split at e
          · rename_i hq
            exact ⟨e, fun _ => by rw [hv, SV.beq_ok _ _ hq]⟩
          · cases e
        · cases e
    obtain ⟨i1, i2⟩ := promises_spec key.1
    refine ⟨fun x u t hm hb => ?_, fun i b o hm hb => ?_⟩
    · cases hm with
      | head => exact key.2 hb
      | tail _ hm => exact i1 x u t hm hb
    · cases hm with
      | tail _ hm => exact i2 i b o hm hb
  | .al i0 b0 o0 :: rest, e => by
    simp only [promises] at e
    have key : promises G pre h rest = true ∧ (Nat.testBit pre i0 = false → h.t.get b0 = some o0) := by
      split at e
      · rename_i hb
        exact ⟨e, fun h0 => by rw [hb] at h0; cases h0⟩
      · split at e
        · rename_i o' ho
          split at e
          · rename_i hq
            exact ⟨e, fun _ => by rw [ho, objBeq_ok hq]⟩
          · cases e
        · cases e
    obtain ⟨i1, i2⟩ := promises_spec key.1
    refine ⟨fun x u t hm hb => ?_, fun i b o hm hb => ?_⟩
    · cases hm with
      | tail _ hm => exact i1 x u t hm hb
    · cases hm with
      | head => exact key.2 hb
      | tail _ hm => exact i2 i b o hm hb

theorem cls_e {o : Op} (h : clsOf G o = .e) : isNew G o = false ∧ isEff G o = true := by
  unfold clsOf at h
  split at h
  · cases h
  · split at h
    · rename_i a _ c; exact ⟨a, c⟩
    · split at h <;> cases h

theorem regD_go (K : GlOk P G) (S0 : Sound P G run) (Cl : CallOk P G run) (Rd : RoundOk P G run) (Tb : Tab G ops tmP all) :
    ∀ (fuel : Nat) (t : Nat) (U : List Nat) (D : Dyn) (l : List Fin1), U.length ≤ fuel → (∀ i, i < ops.size → D.listed.getD i false = false → i ∈ U) → St P G N C ops all tm0 tmP nx0 b D → All2 (ItR D.σ) k kk →
      regRun G run C k tmP D.lr D.pr D.tm D.ds D.h D.cp = .ok l →
      ∃ r ∈ l, FinR P N nx0 D.σ C (lone (b.atR D.a (.inRegion ops (Region.linearise.go .any ops fuel t D.listed []) :: kk)) D.cs D.w) D.cs D.w r := by
  -- all is done
  have stop : ∀ (D : Dyn) (l : List Fin1), (∀ i, i < ops.size → D.listed.getD i false = true) → St P G N C ops all tm0 tmP nx0 b D → All2 (ItR D.σ) k kk → regRun G run C k tmP D.lr D.pr D.tm D.ds D.h D.cp = .ok l →
      ∃ r ∈ l, FinR P N nx0 D.σ C (lone (b.atR D.a (.inRegion ops [] :: kk)) D.cs D.w) D.cs D.w r := by
    intro D l hall S hk e
    have hlist : ∀ x ∈ all, D.listed.getD x.i false = true := by
      intro x hx
      refine hall x.i ?_
      rw [← Tb.len]
      have := Tb.at_ x hx
      exact (List.getElem?_eq_some_iff.1 this).1
    have hlr : D.lr = [] := by
      cases hlr : D.lr with
      | nil => rfl
      | cons x r =>
        have hx : x ∈ all := S.inAll x (by rw [hlr]; exact List.mem_cons_self)
        have h1 := S.ord
        rw [hlr] at h1
        have h2 := (ordOk_cons h1).1
        rw [S.done x hx (hlist x hx)] at h2
        cases h2
    rw [hlr] at e
    have e' : run C k D.tm D.ds .run D.h D.cp = .ok l := e
    have htm : TmR D.σ D.tm C.nt D.a.tmps := by
      refine ⟨S.tms.1, fun t v hv => S.tms.2 t v ?_⟩
      by_cases hz : ∃ z ∈ all, z.o.dst = some t
      · obtain ⟨z, hz, hd⟩ := hz
        rw [S.cd z hz (hlist z hz) t hd]; exact hv
      · rw [S.cu t fun z hz' hd => absurd ⟨z, hz', hd⟩ hz, ← S.au t fun z hz' hd => absurd ⟨z, hz', hd⟩ hz]
        exact hv
    obtain ⟨r, hr, hF⟩ := S0 _ _ _ _ _ _ _ _ e' N D.σ D.w (b.atR D.a kk) D.cs S.glob S.heap ⟨S.mid.fn, S.mid.kind, S.mid.round, htm, S.mid.defs, rfl, fun _ => hk, S.mid.kinds, S.mid.fnok⟩ S.mid.cal
    exact ⟨r, hr, hF.of_steps (.one stepR_region_end) (Sg.up_refl _ _) S.nx (Below.refl _ _)⟩
  intro fuel
  induction fuel with
  | zero =>
    intro t U D l hU hin S hk e
    have hU0 : U = [] := List.length_eq_zero_iff.1 (Nat.le_zero.1 hU)
    refine stop D l (fun i hi => ?_) S hk e
    cases h : D.listed.getD i false with
    | true => rfl
    | false => have := hin i hi h; rw [hU0] at this; cases this
  | succ fuel ih =>
    intro t U D l hU hin S hk e
    simp only [Region.linearise.go]
    change ∃ r ∈ l, FinR P N nx0 D.σ C (lone (b.atR D.a (.inRegion ops (match (Region.ready .any ops D.listed)[t % (Region.ready .any ops D.listed).length]? with
      | some i => Region.linearise.go .any ops fuel (t / (Region.ready .any ops D.listed).length) (D.listed.setIfInBounds i true) [i]
      | none => [].reverse) :: kk)) D.cs D.w) D.cs D.w r
    cases hi : (Region.ready .any ops D.listed)[t % (Region.ready .any ops D.listed).length]? with
    | none =>
      have hnil : Region.ready .any ops D.listed = [] := by
        cases hr : Region.ready .any ops D.listed with
        | nil => rfl
        | cons x xs =>
          rw [hr] at hi
          have hlt : t % (x :: xs).length < (x :: xs).length := Nat.mod_lt _ (by simp)
          simp at hi
          simp at hlt
          omega
      refine stop D l (fun i hi => ?_) S hk e
      cases h : D.listed.getD i false with
      | true => rfl
      | false =>
        have hback : ∀ i o, ops[i]? = some o → ∀ e ∈ o.after, Region.binds .any e = true → e.on < i := by
          intro i o ho
          have hi' : i < ops.size := (Array.getElem?_eq_some_iff.1 ho).1
          obtain ⟨x, hx, hxi⟩ := Tb.every i hi'
          have := Tb.op x hx
          rw [hxi, ho] at this
          cases this
          rw [← hxi]
          exact Tb.back x hx
        have h' : D.listed.getD i true = false := by
          have : i < D.listed.size := by rw [S.size]; exact hi
          simp only [Array.getD, this, dif_pos] at h ⊢
          exact h
        obtain ⟨j, hj⟩ := ready_some S.size hback i i (Nat.le_refl _) hi h'
        rw [hnil] at hj
        cases hj
    | some i =>
      simp only []
      rw [linearise_go_acc, List.reverse_singleton, List.singleton_append]
      have hready : i ∈ Region.ready .any ops D.listed := List.mem_of_getElem? hi
      have hilt : i < ops.size := (ready_mem.1 hready).1
      obtain ⟨x, hx, rfl⟩ := Tb.every i hilt
      have hunl := ready_false S.size hready
      have hxU : x.i ∈ U := hin x.i hilt hunl
      have hU' : (U.erase x.i).length ≤ fuel := by
        rw [List.length_erase_of_mem hxU]; omega
      have hin' : ∀ j, j < ops.size → (D.listed.setIfInBounds x.i true).getD j false = false → j ∈ U.erase x.i := by
        intro j hj hl
        by_cases hjx : j = x.i
        · subst hjx
          have : x.i < D.listed.size := by rw [S.size]; exact hilt
          simp [Array.getD, this] at hl
        · rw [set_getD (Ne.symm hjx)] at hl
          exact (List.mem_erase_of_ne hjx).2 (hin j hj hl)
      obtain ⟨lr', acc', pr', tm', h', B', S', e', hform⟩ := flush K Tb D.lr.length D rfl S e
      cases hacc : Nat.testBit acc' x.i with
      | true =>
        obtain ⟨tmC', σ', w', y, S2, hu, hb, hst⟩ := mach1 K S' Tb hx hready hacc (Region.linearise.go .any ops fuel (t / (Region.ready .any ops D.listed).length) (D.listed.setIfInBounds x.i true) []) kk
        obtain ⟨r, hr, hF⟩ := ih (t / (Region.ready .any ops D.listed).length) (U.erase x.i) _ l hU' hin' S2 (hk.mono fun _ _ => ItR.mono hu.1) e'
        exact ⟨r, hr, hF.of_steps (.one hst) hu (Nat.le_refl _) hb⟩
      | false =>
        have hxlr : x ∈ lr' := by
          rcases S'.accs x hx with h1 | h1
          · simp only at h1; rw [hacc] at h1; cases h1
          · exact h1
        rcases hform with h0 | ⟨x1, r1, h0, hce⟩
        · rw [h0] at hxlr; cases hxlr
        · have hx1 : x1 ∈ all := S'.inAll x1 (by simp only; rw [h0]; exact List.mem_cons_self)
          have hord : ordOk _ lr' acc' D.eff = true := S'.ord
          rw [h0] at hord
          obtain ⟨o1, o2, o3, o4⟩ := ordOk_cons hord
          have hx1x : x1 = x := by
            rw [h0] at hxlr
            cases hxlr with
            | head => rfl
            | tail _ hxr =>
              exfalso
              rw [hce] at o4
              have hp := ordOk_eff o4 x hxr x1.i (by rw [bit_or]; simp)
              have := S'.done x1 hx1 (S'.ready Tb hx hready _ hp)
              simp only at this
              rw [this] at o1
              cases o1
          subst hx1x
          subst h0
          have hag := S'.agree Tb hx hunl (S'.ready Tb hx hready) (S'.view Tb hx hacc)
          simp only at hag
          have hops := Tb.op x1 hx
          have hwt : ∀ bb, wantedA tm' x1.g = some bb → Region.wanted x1.o (yielded ops D.a.tmps) = bb := by
            intro bb hb
            refine guard_ok (tm := tm') S.tms (fun t w hg => agree_guard hag t w ?_) (by rw [← Tb.gd x1 hx]; exact hb)
            rw [Tb.gd x1 hx]; exact hg
          have e1 : regOp G run C tmP x1 (regRun G run C k tmP r1) pr' tm' D.ds h' D.cp = .ok l := e'
          rcases regOp_ok e1 with ⟨hw, e2⟩ | ⟨hw, e2⟩
          · rw [hce] at e2
            have e3 : doAct G run C tmP x1 (regRun G run C k tmP r1) pr' tm' D.ds h' D.cp (opE G x1.o.op tm' h') = .ok l := e2
            refine act_ok (x := x1) (nx0 := nx0) K S0 Cl Rd S.mid S.glob S'.heap S.tms (agree_ops hag) hops (hwt _ hw) e3 ?_ S'.nx
            intro v h2 cp2 ds2 l2 hf σ2 w2 cs2 y D2 hu H2 hn hb hv _ M2
            unfold fin at hf
            split at hf
            · rename_i hprom
              obtain ⟨tm2, hset, e4⟩ := doSet_ok hf
              obtain ⟨p1, p2⟩ := promises_spec hprom
              obtain ⟨tmC2, S2⟩ := S'.both Tb rfl hce hready hset hv hu.1 H2 hn M2 (fun z hz hne hzl tmz u hc => by
                have hpz : Nat.testBit x1.pre z.i = false := by
                  cases hpz : Nat.testBit x1.pre z.i with
                  | false => rfl
                  | true => have := S'.ready Tb hx hready _ hpz; rw [hzl] at this; cases this
                rcases hc with c | ⟨c1, c2, c3⟩ | ⟨c1, c2, c3, c4⟩ | ⟨c1, c2, hz0, obz, r1', r2, r3, r4, r5, r6, r7⟩
                · exact .inl c
                · have hcn := cls_n ((Tb.cl z hz).symm.trans c2)
                  refine .inr (.inl ⟨c1, c2, ?_⟩)
                  rw [← c3]
                  exact opN_heap hcn.2.1 hcn.2.2
                · exact .inr (.inr (.inl ⟨c1, c2, p1 z u tmz c4 hpz, c4⟩))
                · refine .inr (.inr (.inr ⟨c1, c2, hz0, obz, r1', r2, r3, Nat.lt_of_lt_of_le r4 hn, ?_, p2 _ _ _ r7 hpz, r7⟩))
                  rw [hu.2 _ r4]
                  exact r5)
              exact ih (t / (Region.ready .any ops D.listed).length) (U.erase x1.i) _ l2 hU' hin' S2 (hk.mono fun _ _ => ItR.mono hu.1) e4
            · cases hf
          · obtain ⟨tm2, hset, e4⟩ := doSet_ok e2
            obtain ⟨tmC2, S2⟩ := S'.both (Df := D.a.defers) Tb rfl hce hready hset (undef_vr _) (Sg.le_refl _) S'.heap (Nat.le_refl _) S'.mid (fun z _ _ _ tmz u hc => hc)
            obtain ⟨r, hr, hF⟩ := ih (t / (Region.ready .any ops D.listed).length) (U.erase x1.i) _ l hU' hin' S2 hk e4
            refine ⟨r, hr, hF.of_steps (.one ?_) (Sg.up_refl _ _) (Nat.le_refl _) (Below.refl _ _)⟩
            have := stepR_op_skip (P := P) (b := b) (a := D.a) (k := kk) (cs := D.cs) (w := D.w) (ops := ops) (i := x1.i) (rest := Region.linearise.go .any ops fuel (t / (Region.ready .any ops D.listed).length) (D.listed.setIfInBounds x1.i true) []) (by rw [hops]; exact hwt _ hw)
            rw [hops, Option.bind_some] at this
            exact this
end
end Go.Ex

/- Regions, drawn or not. Conditions: the tables are the program's; deeper runs are right. -/
namespace Go.Ex
open Go.RowKit (Below)
section
variable {N : Nat} {P : Program} {G : Gl} {run : RunT}

theorem ordOk_full {full : Nat} : ∀ {l : List RI} {acc eff : Nat}, ordOk full l acc eff = true → ∀ j, Nat.testBit full j = true → Nat.testBit acc j = true ∨ ∃ x ∈ l, x.i = j
  | [], acc, eff, h, j, hj => by
    rw [← ordOk_nil h] at hj
    exact .inl hj
  | x :: r, acc, eff, h, j, hj => by
    obtain ⟨h1, h2, h3, h4⟩ := ordOk_cons h
    rcases ordOk_full h4 j hj with h5 | ⟨y, hy, hyj⟩
    · rw [bit_or] at h5
      by_cases hx : j = x.i
      · exact .inr ⟨x, List.mem_cons_self, hx.symm⟩
      · simp only [hx, decide_false, Bool.or_false] at h5
        exact .inl h5
    · exact .inr ⟨y, List.mem_cons_of_mem _ hy, hyj⟩

theorem creg_true {ops : Array Oper} {L : List RI} (hc : creg G ops true = some L) :
    ∃ all, risOf G ops.toList 0 [] ops.toList = some all ∧ allPairs all = true ∧ ordOk (Nat.sub (Nat.pow 2 all.length) 1) L 0 0 = true ∧ ∀ x ∈ L, x ∈ all := by
  unfold creg at hc
  simp only at hc
  split at hc
  · cases hc
  · rename_i all hall
    unfold creg2 at hc
    split at hc
    · rename_i h1 h2
      cases hc
      exact ⟨all, hall, h2, h1, fun x hx => phases_mem (fun y hy => effsOf_mem hy) hx⟩
    · cases hc

theorem tab_of {ops : Array Oper} {all L : List RI} {tm : T SV} (hr : risOf G ops.toList 0 [] ops.toList = some all) (hp : allPairs all = true) (ho : ordOk (Nat.sub (Nat.pow 2 all.length) 1) L 0 0 = true)
    (hs : ∀ x ∈ L, x ∈ all) : Tab G ops (clearT tm L) all ∧ ∀ x ∈ all, x ∈ L := by
  obtain ⟨hlen, hspec⟩ := risOf_spec (G := G) ops.toList ops.toList [] all hr
  have at0 : ∀ x ∈ all, ∃ i : Nat, all[i]? = some x ∧ x.i = i := by
    intro x hx
    obtain ⟨i, hi⟩ := List.getElem?_of_mem hx
    refine ⟨i, hi, ?_⟩
    have := (hspec i x hi).1
    simpa using this
  have eqi : ∀ x ∈ all, ∀ y ∈ all, x.i = y.i → x = y := by
    intro x hx y hy h
    obtain ⟨i, h1, h2⟩ := at0 x hx
    obtain ⟨j, h3, h4⟩ := at0 y hy
    have : i = j := by omega
    subst this
    rw [h1] at h3
    exact Option.some.inj h3
  have back : ∀ x ∈ all, x ∈ L := by
    intro x hx
    obtain ⟨i, h1, h2⟩ := at0 x hx
    have hlt := (List.getElem?_eq_some_iff.1 h1).1
    have hb : Nat.testBit (Nat.sub (Nat.pow 2 all.length) 1) x.i = true := by
      show Nat.testBit (2 ^ all.length - 1) x.i = true
      rw [Nat.testBit_two_pow_sub_one]
      simp; omega
    rcases ordOk_full ho x.i hb with h | ⟨y, hy, hyi⟩
    · rw [Nat.zero_testBit] at h; cases h
    · rw [← eqi y (hs y hy) x hx hyi]; exact hy
  refine ⟨⟨fun x hx => ?_, hp, fun x hx => ?_, fun x hx => ?_, fun x hx => ?_, ?_, fun i hi => ?_, fun x hx e he hb => ?_, fun x hx j hj => ?_, fun x hx t ht => ?_⟩, back⟩
  · obtain ⟨i, h1, h2⟩ := at0 x hx
    rw [h2]; exact h1
  · obtain ⟨i, h1, h2⟩ := at0 x hx
    rw [h2, ← Array.getElem?_toList]
    exact (hspec i x h1).2.1
  · obtain ⟨i, h1, h2⟩ := at0 x hx
    exact (hspec i x h1).2.2.1
  · obtain ⟨i, h1, h2⟩ := at0 x hx
    exact (hspec i x h1).2.2.2.1
  · simpa using hlen
  · have hi' : i < all.length := by rw [hlen]; simpa using hi
    refine ⟨all[i], List.getElem_mem hi', ?_⟩
    have := (hspec i _ (List.getElem?_eq_getElem hi')).1
    simpa using this
  · obtain ⟨i, h1, h2⟩ := at0 x hx
    have hm := (hspec i x h1).2.2.2.2
    have := ((maskOf_spec _ _ _ _ hm).1 e (by simpa using he) hb).1
    simp at this
    omega
  · obtain ⟨i, h1, h2⟩ := at0 x hx
    have hm := (hspec i x h1).2.2.2.2
    obtain ⟨e, he, hb, hj'⟩ := (maskOf_spec _ _ _ _ hm).2 j hj
    have hlt := ((maskOf_spec _ _ _ _ hm).1 e he hb).1
    refine ⟨e, by simpa using he, hb, ?_⟩
    rcases hj' with h | h
    · exact .inl h
    · refine .inr ?_
      have hi' := (List.getElem?_eq_some_iff.1 h1).1
      have hon : e.on < i := by simpa using hlt
      have hlt2 : e.on < all.length := by omega
      refine ⟨all[e.on], List.getElem_mem hlt2, ?_, ?_⟩
      · have := (hspec e.on _ (List.getElem?_eq_getElem hlt2)).1
        simpa using this
      · have hn : nthN ((([] ++ all.take i : List RI).map (·.pre)).reverse) (([] : List RI).length + i - 1 - e.on) = (all[e.on]).pre := by
          refine nthN_get _ _ _ ?_
          rw [List.getElem?_reverse (by simp; omega)]
          simp only [List.nil_append, List.length_map, List.length_take, List.length_nil, List.getElem?_map]
          have : min i all.length - 1 - (0 + i - 1 - e.on) = e.on := by omega
          rw [this, List.getElem?_take_of_lt hon, List.getElem?_eq_getElem hlt2]
          rfl
        rw [hn] at h
        exact h
  · exact (clearT_get t L tm).1 ⟨x, back x hx, ht⟩

theorem regD_ok (hm : P.follows .mixedOrders = true) (K : GlOk P G) (S0 : Sound P G run) (Cl : CallOk P G run) (Rd : RoundOk P G run) {C : FC} {k : List AItem} {ops : Array Oper} {kk : List Item} {b : Frame} {L : List RI} (hc : creg G ops true = some L)
    {tm : T SV} {ds : List ADef} {h : AH} {cp : CP} {l : List Fin1} {σ : Sg} {w : World} {a : Go.Act} {cs : List Frame} (t : Nat)
    (e : regRun G run C k (clearT tm L) L [] tm ds h cp = .ok l) (hg : Glob σ) (H : HR N σ h w) (hT : TmR σ tm C.nt a.tmps) (M : Mid P σ C (clearT tm L) ds cp b a cs) (hk : All2 (ItR σ) k kk) :
    ∃ r ∈ l, FinR P N h.next σ C (lone (b.atR a (.inRegion ops (Region.schedule (P.follows .mixedOrders) ops t) :: kk)) cs w) cs w r := by
  obtain ⟨all, hr, hp, ho, hs⟩ := creg_true hc
  obtain ⟨Tb, back⟩ := tab_of (tm := tm) hr hp ho hs
  simp only [Region.schedule, hm, Bool.true_or, if_true]
  have nol : ∀ i, (Array.replicate ops.size false).getD i false = false := by
    intro i
    by_cases hi : i < ops.size
    · simp [Array.getD, hi]
    · simp [Array.getD, hi]
  refine regD_go (tm0 := tm) (nx0 := h.next) (all := all) (tmP := clearT tm L) K S0 Cl Rd Tb ops.size t (List.range ops.size) ⟨Array.replicate ops.size false, L, 0, 0, [], tm, tm, ds, h, cp, σ, w, a, cs, fun _ => none⟩ l (by simp)
    (fun i hi _ => List.mem_range.2 hi) ?_ hk e
  refine ⟨by simp, fun x _ hl => ?_, ho, hs, fun x _ ha => ?_, fun x hx => .inr (back x hx), fun x _ _ ha => ?_, fun x _ hl => ?_, fun x _ ha => ?_, fun i j n hi => (by cases hi), fun i n hi => (by cases hi), fun x _ hl => ?_, fun _ _ => rfl, fun _ _ => rfl, hT, H, hg, M, Nat.le_refl _⟩
  · simp only at hl; rw [nol] at hl; cases hl
  · simp only at ha; rw [Nat.zero_testBit] at ha; cases ha
  · simp only at ha; rw [Nat.zero_testBit] at ha; cases ha
  · simp only at hl; rw [nol] at hl; cases hl
  · simp only at ha; rw [Nat.zero_testBit] at ha; cases ha
  · simp only at hl; rw [nol] at hl; cases hl

/-- a region -/
theorem region_ok (hm : P.follows .mixedOrders = true) (K : GlOk P G) (S0 : Sound P G run) (Cl : CallOk P G run) (Rd : RoundOk P G run) {C : FC} {k : List AItem} {id : Nat} {ops : Array Oper} {draw : Bool} {kk : List Item} {b : Frame}
    {tm : T SV} {ds : List ADef} {h : AH} {cp : CP} {l : List Fin1} {σ : Sg} {w : World} {a : Go.Act} {cs : List Frame}
    (e : cRegion G ops draw run k C tm ds h cp = .ok l) (hg : Glob σ) (H : HR N σ h w) (hT : TmR σ tm C.nt a.tmps) (M : Mid P σ C tm ds cp b a cs) (hk : All2 (ItR σ) k kk) :
    ∃ r ∈ l, FinR P N h.next σ C (lone (b.atR a (.code (.region id ops draw) :: kk)) cs w) cs w r := by
  unfold cRegion at e
  split at e
  · rename_i L hc
    have M' : Mid P σ C (clearT tm L) ds cp b a cs := ⟨M.fn, M.kind, M.round, M.kinds, M.fnok, M.tmP.clear, M.defs, M.cal⟩
    cases draw with
    | false =>
      have hL : L = plainRis G ops.toList 0 ops.toList := by
        unfold creg at hc
        simp only at hc
        exact (Option.some.inj hc).symm
      have hrange : List.range ops.size = List.range' 0 ops.size := by rw [List.range_eq_range']
      obtain ⟨r, hr, hF⟩ := regU_ok (N := N) (kk := kk) (b := b) (tmP := clearT tm L) K S0 Cl Rd ops.size 0 ops.toList rfl (by simp) tm ds h cp l σ w a cs (by rw [← hL]; exact e) hg H hT M' hk (by
        intro o ho t ht
        refine (clearT_get t L tm).1 ?_
        have key : ∀ (l : List Oper) (n : Nat), o ∈ l → ∃ x ∈ plainRis G ops.toList n l, x.o = o := by
          intro l
          induction l with
          | nil => intro n h; cases h
          | cons p r ih =>
            intro n h
            cases h with
            | head => exact ⟨_, List.mem_cons_self, rfl⟩
            | tail _ h => obtain ⟨x, hx, he⟩ := ih (n + 1) h; exact ⟨x, List.mem_cons_of_mem _ hx, he⟩
        obtain ⟨x, hx, he⟩ := key ops.toList 0 ho
        exact ⟨x, by rw [hL]; exact hx, by rw [he]; exact ht⟩)
      refine ⟨r, hr, hF.of_steps (.one ?_) (Sg.up_refl _ _) (Nat.le_refl _) (Below.refl _ _)⟩
      rw [← hrange]
      exact stepR_region
    | true =>
      obtain ⟨r, hr, hF⟩ := regD_ok (N := N) (w := { w with drawn := w.drawn + 1 }) hm K S0 Cl Rd hc (w.tape w.drawn (.order b.fn id)) e hg (H.same rfl) hT M' hk
      have hb : Below N w { w with drawn := w.drawn + 1 } := ⟨rfl, rfl, rfl, Nat.le_refl _, fun _ _ => rfl⟩
      exact ⟨r, hr, FinR.of_steps (w := w) (.one stepR_region_draw) (Sg.up_refl _ _) (Nat.le_refl _) hb hF⟩
  · cases e
end
end Go.Ex
