/- Operations that make or change memory. Conditions: the tables are the program's. -/
import Derived.Test.YtcjhpnnfbhcegaaGreatDoorEx3
/- Operations that make one block and no more. Conditions: the tables that the executor asks are the program's. -/
namespace Go.Ex
open Go.RowKit (Below)
section
variable {N : Nat} {σ : Sg} {h : AH} {w : World} {P : Program} {G : Gl} {A : Array Value} {tm : T SV} {nt : Nat}

/-- a result with one new block, that stands for block b -/
def NewR (σ : Sg) (w : World) (b : Nat) (v : SV) (o : AObj) (r : Result Next) : Prop :=
  ∃ n y w' ob, r = .ok (.value y) w' ∧ w'.heap = w.heap.push ob ∧ Below w.heap.size w w' ∧ ObjR (σ.put b (w.heap.size, 0, n)) o w.heap.size 0 n w' ∧ VR (σ.put b (w.heap.size, 0, n)) v y

theorem cellsR_new {l : List SV} {C : Array Value} {elem g : Nat} {w' : World} {te : TypeId} {fz : Nat × Nat} {cb : Nat} {R : Array Value} (hh : w'.heap[cb]? = some (.cells (C ++ R) te fz))
    (hf : FzOk fz (C ++ R).size) (hl : VRL σ l C.toList) : CellsR σ ⟨fillT .e 0 l, l.length, elem, g⟩ cb 0 (C ++ R).size w' := by
  have hlen : C.size = l.length := by have := hl.length; simpa using this
  refine ⟨C ++ R, te, fz, hh, rfl, by simp [hlen], hf, fun j v hj hv => ?_⟩
  simp only at hj hv
  rw [fillT_get, if_pos (by omega)] at hv
  obtain ⟨v', a, b⟩ := hl.get hv
  refine ⟨Nat.zero_le _, v', ?_, b⟩
  rw [Nat.sub_zero, Array.getElem?_append_left (by omega), ← Array.getElem?_toList]
  simpa using a
theorem push_get (H : Array Obj) (o : Obj) : (H.push o)[H.size]? = some o := by simp
theorem below_push {w' : World} {o : Obj} (e : w'.heap = w.heap.push o) (h1 : w'.os = w.os) (h2 : w'.tape = w.tape) (h3 : w'.output = w.output) : Below w.heap.size w w' :=
  ⟨h1, h2, h3, by rw [e]; simp, fun k hk => by rw [e, Array.getElem?_push, if_neg (by omega)]⟩

theorem repl_length (z : List SV) : ∀ n, (repl z n).length = n * z.length
  | 0 => by simp [repl]
  | n + 1 => by simp [repl, repl_length z n, Nat.add_mul]; omega
theorem repl_get (z : List SV) : ∀ n i, i < n * z.length → (repl z n)[i]? = z[i % z.length]?
  | 0, i, h => by omega
  | n + 1, i, h => by
    simp only [repl]
    by_cases hi : i < z.length
    · rw [List.getElem?_append_left hi, Nat.mod_eq_of_lt hi]
    · have e : i % z.length = (i - z.length) % z.length := Nat.mod_eq_sub_mod (by omega)
      rw [List.getElem?_append_right (by omega), repl_get z n _ (by rw [Nat.add_mul] at h; omega), e]
theorem zeros_ok {z : List SV} {Z : Array Value} (hz : VRL σ z Z.toList) (n : Nat) : VRL σ (repl z n) ((Array.range (n * Z.size)).map (fun i => Z[i % Z.size]!)).toList := by
  have hs : Z.size = z.length := by have := hz.length; simpa using this
  refine VRL.of_get _ _ (by simp [repl_length, hs]) (fun i x hx => ?_)
  have hi : i < n * z.length := by
    have := (List.getElem?_eq_some_iff.1 hx).1
    rwa [repl_length] at this
  rw [repl_get z n i hi] at hx
  obtain ⟨y, a, b⟩ := hz.get hx
  refine ⟨y, ?_, b⟩
  rw [Array.getElem?_toList] at a ⊢
  have hlt : i % Z.size < Z.size := by
    rw [hs]
    have := (List.getElem?_eq_some_iff.1 hx).1
    exact this
  rw [Array.getElem?_map, Array.getElem?_range, if_pos (by rw [hs]; exact hi), Option.map_some, getElem!_pos Z _ hlt]
  rw [← hs] at a
  rw [Array.getElem?_eq_getElem hlt] at a
  exact a
theorem run_newRow (elem : TypeId) (C : Array Value) : (newRow elem C).run P w = .ok ⟨w.heap.size, 0, none⟩ (w.alloc (.cells C elem)) := rfl
theorem alloc_heap (o : Obj) : (w.alloc o).heap = w.heap.push o := rfl

theorem newCells_R {l : List SV} {C : Array Value} {elem te : TypeId} {b g : Nat} {v : SV} {y : Value} (hl : VRL (σ.put b (w.heap.size, 0, C.size)) l C.toList)
    (hv : VR (σ.put b (w.heap.size, 0, C.size)) v y) : NewR σ w b v (.cells ⟨fillT .e 0 l, l.length, elem, g⟩) (.ok (.value y) (w.alloc (.cells C te))) := by
  refine ⟨C.size, y, _, _, rfl, rfl, below_push rfl rfl rfl rfl, ?_, hv⟩
  have hh : (w.alloc (.cells C te)).heap[w.heap.size]? = some (.cells (C ++ #[]) te (0, 0)) := by rw [alloc_heap, push_get]; simp
  have := cellsR_new (σ := σ.put b (w.heap.size, 0, C.size)) (elem := elem) (g := g) hh (.inl rfl) hl
  simp only [Array.append_empty] at this
  exact this
theorem ptr_new (σ : Sg) (b n : Nat) (w : World) : VR (σ.put b (w.heap.size, 0, n)) (.ptr b 0) (.pointer (some ⟨w.heap.size, 0, none⟩)) :=
  ⟨w.heap.size, 0, n, Sg.put_self _ _ _, Nat.le_refl _, rfl⟩
theorem slice_new (σ : Sg) (b n len cap c sz : Nat) (ex : Bool) (w : World) (h1 : len ≤ cap) (h2 : cap ≤ c) (h3 : ex = true → c = cap) (h4 : c * sz ≤ n) :
    VR (σ.put b (w.heap.size, 0, n)) (.slice b 0 len cap sz ex) (.slice (some ⟨w.heap.size, 0, none⟩) len c) :=
  ⟨w.heap.size, 0, n, _, c, Sg.put_self _ _ _, Nat.le_refl _, rfl, h1, h2, h3, .inl rfl, by omega⟩

theorem eAlloc_ok (K : GlOk P G) {e : TypeId} {v : SV} {h' : AH} (he : eAlloc G e tm h = .val v h') :
    ∃ obj, h' = h.new obj ∧ ∀ (σ : Sg) (w : World), NewR σ w h.next v obj ((do pure (.value (← Instr.alloc e true (.tuple #[]))) : Sem Next).run P w) := by
  unfold eAlloc at he
  split at he
  · rename_i z hz
    cases he
    refine ⟨_, rfl, fun σ w => ?_⟩
    obtain ⟨zv, z1, z2⟩ := run_zeroValue (P := P) (w := w) (σ := σ.put h.next (w.heap.size, 0, 0)) K hz
    have z2' : ∀ τ : Sg, VR τ z zv := by
      intro τ
      obtain ⟨i, u, hi, hu, hr⟩ := inf_of_zero (σ := τ) hz
      have : zv = u := by
        unfold zeroValue at z1
        simp [run_typeInfo K hi, hu] at z1
        exact z1.symm
      rw [this]
      exact hr
    have hrun : (Instr.alloc e true (.tuple #[])).run P w = .ok (.pointer (some ⟨w.heap.size, 0, none⟩)) (w.alloc (.cells zv.cells e)) := by
      unfold Instr.alloc
      simp only [Sem.run_bind, z1, Result.andThen_ok]
      rfl
    rw [run_v hrun]
    exact newCells_R (z2' _).cells (ptr_new _ _ _ _)
  · cases he
theorem eBox_ok {e : TypeId} {x : Operand} {v : SV} {h' : AH} (he : eBox e x tm h = .val v h') :
    ∃ obj, h' = h.new obj ∧ ∀ (σ : Sg) (A : Array Value) (w : World), TmR σ tm nt A → Glob σ → σ h.next = none → NewR σ w h.next v obj ((do pure (.value (← Instr.box e (rho A x))) : Sem Next).run P w) := by
  unfold eBox at he
  split at he
  · rename_i u hu
    cases he
    refine ⟨_, rfl, fun σ A w hT hg hn => ?_⟩
    have h1 := (VR.mono (Sg.le_put (w.heap.size, 0, (rho A x).cells.size) hn) _ _ (evalQ_ok hT hg hu)).cells
    have hrun : (Instr.box e (rho A x)).run P w = .ok (.pointer (some ⟨w.heap.size, 0, none⟩)) (w.alloc (.cells (rho A x).cells e)) := rfl
    rw [run_v hrun]
    exact newCells_R h1 (ptr_new _ _ _ _)
  · cases he
theorem newMap_ok {v : SV} {h' : AH} {s : Sem Value} (he : newMap h = .val v h') (hs : ∀ w : World, s.run P w = .ok (.map (some w.heap.size)) (w.alloc (.map #[] 0))) :
    ∃ obj, h' = h.new obj ∧ ∀ (σ : Sg) (w : World), NewR σ w h.next v obj ((do pure (.value (← s)) : Sem Next).run P w) := by
  unfold newMap at he
  cases he
  refine ⟨_, rfl, fun σ w => ?_⟩
  rw [run_v (hs w)]
  refine ⟨0, _, _, _, rfl, rfl, below_push rfl rfl rfl rfl, ⟨#[], by rw [alloc_heap, push_get], .nil⟩, _, _, _, Sg.put_self _ _ _, rfl⟩
theorem eMkM_ok (K : GlOk P G) {t : TypeId} {r : Option Operand} {v : SV} {h' : AH} (he : eMkM G t r tm h = .val v h') :
    ∃ obj, h' = h.new obj ∧ ∀ (σ : Sg) (A : Array Value) (w : World), TmR σ tm nt A → Glob σ → σ h.next = none → NewR σ w h.next v obj ((do pure (.value (← Instr.makeMap t (r.map (rho A)))) : Sem Next).run P w) := by
  unfold eMkM at he
  split at he
  · obtain ⟨obj, a, b⟩ := newMap_ok (P := P) (s := Instr.makeMap t none) he (fun w => rfl)
    exact ⟨obj, a, fun σ A w _ _ _ => b σ w⟩
  · rename_i r
    split at he
    · rename_i kt el kk n hu hr
      have he' := he
      unfold newMap at he'
      cases he'
      refine ⟨_, rfl, fun σ A w hT hg hn => ?_⟩
      have h1 := evalQ_ok hT hg hr
      simp only [VR] at h1
      have hrun : ∀ w : World, (Instr.makeMap t (some (rho A r))).run P w = .ok (.map (some w.heap.size)) (w.alloc (.map #[] 0)) := by
        intro w
        unfold Instr.makeMap
        simp only [Sem.run_bind, run_underlying' K hu, Result.andThen_ok, h1]
        rfl
      obtain ⟨obj, a, b⟩ := newMap_ok (P := P) he hrun
      have := b σ w
      have ho : obj = .map [] 0 := by
        have h2 : h.new (.map [] 0) = h.new obj := a
        have h3 : (h.new (.map [] 0)).t.get h.next = (h.new obj).t.get h.next := by rw [h2]
        rw [AH.new_t, AH.new_t, if_pos rfl, if_pos rfl] at h3
        cases h3
        rfl
      rw [ho] at this
      exact this
    · cases he
end
end Go.Ex

/- Operations that make one block and no more (second part). Conditions: the tables that the executor asks are the program's. -/
namespace Go.Ex
open Go.RowKit (Below)
section
variable {N : Nat} {σ : Sg} {h : AH} {w : World} {P : Program} {G : Gl} {A : Array Value} {tm : T SV} {nt : Nat}

theorem new_inj {o o' : AObj} (e : h.new o = h.new o') : o = o' := by
  have h3 : (h.new o).t.get h.next = (h.new o').t.get h.next := by rw [e]
  rw [AH.new_t, AH.new_t, if_pos rfl, if_pos rfl] at h3
  cases h3
  rfl
theorem All2.partMono {σ τ : Sg} (hle : σ.le τ) {l : List (Nat × SV)} {L : List (Nat × Value)} (k : All2 (PartR σ) l L) : All2 (PartR τ) l L :=
  k.mono fun _ _ r => ⟨r.1, VR.mono hle _ _ r.2⟩
theorem zero_val (K : GlOk P G) {t : TypeId} {z : SV} (hz : zeroT G t = some z) : ∃ zv, (∀ w : World, (zeroValue t).run P w = .ok zv w) ∧ ∀ τ : Sg, VR τ z zv := by
  unfold zeroT at hz
  split at hz
  · rename_i i hi
    split at hz
    · rename_i v hv
      refine ⟨v, fun w => ?_, fun τ => ofValue_ok τ 100 v z hz⟩
      unfold zeroValue
      simp [run_typeInfo K hi, hv]
    · cases hz
  · cases hz
theorem eBSl_ok (K : GlOk P G) {t : TypeId} {n : Nat} {ps : Array (Nat × Operand)} {v : SV} {h' : AH} (he : eBSl G t n ps tm h = .val v h') :
    ∃ obj, h' = h.new obj ∧ ∀ (σ : Sg) (A : Array Value) (w : World), TmR σ tm nt A → Glob σ → σ h.next = none →
      NewR σ w h.next v obj ((do pure (.value (← Instr.buildSlice t n (ps.map fun x => (x.1, rho A x.2)))) : Sem Next).run P w) := by
  unfold eBSl at he
  split at he
  · rename_i l hl
    unfold ofR at he
    split at he
    · rename_i v1 h1 hb
      cases he
      unfold buildSliceSV at hb
      split at hb
      · rename_i el hu
        split at hb
        · rename_i s z hs hz
          split at hb
          · rename_i d q1 q2 hd
            split at hb
            · rename_i cl hcl
              cases hb
              have q1' := beq_true.1 q1
              have q2' := ble_true.1 q2
              simp only [Nat.mul_eq] at q2' hd hcl
              refine ⟨_, rfl, fun σ A w hT hg hn => ?_⟩
              obtain ⟨zv, z1, z2⟩ := zero_val (P := P) K hz
              -- the cells that the model fills
              have hZ : zv.cells.size = s := by have := (z2 σ).cells.length; simp at this; omega
              obtain ⟨Z0, hZ0, hZr⟩ : ∃ Z0 : Array Value, (∀ w : World, (if n * s = 0 then pure #[] else do pure (← zeroValue el).cells : Sem (Array Value)).run P w = .ok Z0 w) ∧
                  ∀ τ : Sg, VRL τ (repl z.cells n) ((Array.range (n * s)).map (Z0[· % Z0.size]!)).toList := by
                by_cases h0 : n * s = 0
                · refine ⟨#[], fun w => by rw [if_pos h0]; rfl, fun τ => ?_⟩
                  have : repl z.cells n = [] := by
                    have := repl_length z.cells n
                    rw [q1', h0] at this
                    exact List.length_eq_zero_iff.1 this
                  rw [this, h0]
                  simp [VRL]
                · refine ⟨zv.cells, fun w => by rw [if_neg h0, Sem.run_bind, z1]; rfl, fun τ => ?_⟩
                  have := zeros_ok (z2 τ).cells n
                  rw [hZ] at this
                  rw [hZ]
                  exact this
              have key : ∀ τ : Sg, All2 (PartR τ) l (ps.map fun x => (x.1, rho A x.2)).toList →
                  ∃ C', Instr.fill (fun i => some (i * s, s)) ((Array.range (n * s)).map (Z0[· % Z0.size]!)) (ps.map fun x => (x.1, rho A x.2)).toList = some C' ∧ VRL τ cl C'.toList := by
                intro τ hp
                have hlen : (repl z.cells n).length = n * s := by rw [repl_length, q1']
                obtain ⟨C', f1, f2⟩ := fill_ok (place' := fun i => some (i * s, s)) (fun i x hx => hx) l _ _ d _ hp (by have := TR.of_cells (hZr τ); rwa [hlen] at this) hd
                exact ⟨C', f1, f2.cells hcl⟩
              have hp0 := evalP_ok hT hg hl
              have hp : All2 (PartR σ) l (ps.map fun x => (x.1, rho A x.2)).toList := by simpa using hp0
              obtain ⟨C', f1, f2⟩ := key σ hp
              obtain ⟨C'', f3, f4⟩ := key _ (hp.partMono (Sg.le_put (w.heap.size, 0, C'.size) hn))
              rw [f1] at f3
              cases f3
              have hsize : C'.size = n * s := by
                have a1 := f2.length
                have a2 := (cellsOf_spec _ _ _ _ hcl).1
                simp at a1
                omega
              have hrun : (Instr.buildSlice t n (ps.map fun x => (x.1, rho A x.2))).run P w = .ok (.slice (some ⟨w.heap.size, 0, none⟩) n n) (w.alloc (.cells C' el)) := by
                unfold Instr.buildSlice
                rw [Sem.run_bind, run_underlying' K hu, Result.andThen_ok]
                simp only [Sem.run_bind, run_sizeOf K hs, Result.andThen_ok]
                rw [if_neg (by omega)]
                by_cases h0 : n * s = 0
                · have hZ0' := hZ0 w
                  rw [if_pos h0] at hZ0' ⊢
                  simp only [Sem.run_bind, hZ0', Result.andThen_ok, f1]
                  rfl
                · have hZ0' := hZ0 w
                  rw [if_neg h0] at hZ0' ⊢
                  simp only [Sem.run_bind, z1, Result.andThen_ok, Sem.run_pure] at hZ0' ⊢
                  cases hZ0'
                  simp only [f1]
                  rfl
              rw [run_v hrun]
              exact newCells_R f4 (slice_new σ h.next _ n n n s true w (Nat.le_refl _) (Nat.le_refl _) (fun _ => rfl) (by omega))
            · cases hb
          · cases hb
        · cases hb
      · cases hb
    · cases he
  · cases he
theorem eMkS_ok (K : GlOk P G) {t : TypeId} {lo co : Operand} {v : SV} {h' : AH} (he : eMkS G t lo co tm h = .val v h') :
    ∃ obj, h' = h.new obj ∧ ∀ (σ : Sg) (A : Array Value) (w : World), TmR σ tm nt A → Glob σ → σ h.next = none →
      NewR σ w h.next v obj ((do pure (.value (← Instr.makeSlice t (rho A lo) (rho A co))) : Sem Next).run P w) := by
  unfold eMkS at he
  split at he
  · rename_i lv hlv
    split at he
    · rename_i cv hcv
      unfold ofR at he
      split at he
      · rename_i v1 h1 hb
        cases he
        unfold makeSliceSV at hb
        split at hb
        · rename_i el hu
          split at hb
          · rename_i k1 l k2 c i z hi hz
            split at hb
            · rename_i q1 q2 q3 q4
              cases hb
              have q1' := ble_true.1 q1
              have q2' := ble_true.1 q2
              have q3' := ble_true.1 q3
              have q4' := beq_true.1 q4
              simp only [Nat.mul_eq] at q2'
              refine ⟨_, rfl, fun σ A w hT hg hn => ?_⟩
              have hl1 := evalQ_ok hT hg hlv
              have hc1 := evalQ_ok hT hg hcv
              simp only [VR] at hl1 hc1
              obtain ⟨zv, z1, z2⟩ := zero_val (P := P) K hz
              have hZ : zv.cells.size = i.size := by have := (z2 σ).cells.length; simp at this; omega
              have w1 : IntKind.i64.wrap (Int.ofNat l) = (l : Int) := wrap_small .i64 l (show l < 9223372036854775808 by omega)
              have w2 : IntKind.i64.wrap (Int.ofNat c) = (c : Int) := wrap_small .i64 c (show c < 9223372036854775808 by omega)
              obtain ⟨C, hCr, hrun⟩ : ∃ C : Array Value, (∀ τ : Sg, VRL τ (repl z.cells c) C.toList) ∧ (Instr.makeSlice t (rho A lo) (rho A co)).run P w = .ok (.slice (some ⟨w.heap.size, 0, none⟩) l c) (w.alloc (.cells C el)) := by
                have big : ∀ n : Nat, n ≤ 1073741824 → i.bytes * n ≤ 1073741824 → ((i.bytes : Int) * (n : Int) > 2 ^ 48) = False := by
                  intro n _ hn
                  have h1 : ((i.bytes * n : Nat) : Int) ≤ ((1073741824 : Nat) : Int) := Int.ofNat_le.2 hn
                  rw [Int.natCast_mul] at h1
                  rw [eq_iff_iff, iff_false]
                  intro h2
                  have h3 : ((1073741824 : Nat) : Int) < (2 ^ 48 : Int) := by decide
                  exact absurd (Int.lt_of_lt_of_le h2 h1) (by omega)
                have hbc := big c q3' q2'
                have hsz : (sizeOf el).run P w = .ok i.size w := by
                  unfold sizeOf
                  simp [run_typeInfo K hi]
                by_cases h0 : c * i.size = 0
                · refine ⟨#[], fun τ => ?_, ?_⟩
                  · have : repl z.cells c = [] := by
                      have := repl_length z.cells c
                      rw [q4', h0] at this
                      exact List.length_eq_zero_iff.1 this
                    rw [this]
                    rfl
                  · unfold Instr.makeSlice
                    rw [Sem.run_bind, run_underlying' K hu, Result.andThen_ok]
                    simp only [hl1, hc1, asInt, asIntOf, Sem.run_bind, Sem.run_pure, Result.andThen_ok, run_typeInfo K hi, w1, w2]
                    rw [if_neg (by simp; omega)]
                    simp only [Sem.run_bind, run_askRoom, Result.andThen_ok, hsz, Int.toNat_natCast]
                    rw [if_pos h0, h0]
                    have hr0 : Array.range 0 = (#[] : Array Nat) := by decide
                    simp [run_newRow, hr0]
                · refine ⟨(Array.range (c * i.size)).map (zv.cells[· % zv.cells.size]!), fun τ => ?_, ?_⟩
                  · have := zeros_ok (z2 τ).cells c
                    rw [hZ] at this
                    rw [hZ]
                    exact this
                  · unfold Instr.makeSlice
                    rw [Sem.run_bind, run_underlying' K hu, Result.andThen_ok]
                    simp only [hl1, hc1, asInt, asIntOf, Sem.run_bind, Sem.run_pure, Result.andThen_ok, run_typeInfo K hi, w1, w2]
                    rw [if_neg (by simp; omega)]
                    simp only [Sem.run_bind, run_askRoom, Result.andThen_ok, hsz, Int.toNat_natCast]
                    rw [if_neg h0]
                    simp only [Sem.run_bind, z1, Result.andThen_ok, Sem.run_pure, run_newRow]
              rw [run_v hrun]
              have hCs : C.size = c * i.size := by
                have a1 := (hCr σ).length
                rw [repl_length, q4'] at a1
                simpa using a1
              exact newCells_R (hCr _) (slice_new σ h.next _ l c c i.size true w q1' (Nat.le_refl _) (fun _ => rfl) (by omega))
            · cases hb
          · cases hb
        · cases hb
      · cases he
    · cases he
  · cases he
end
end Go.Ex

/- Operations that make one block and no more: all of them. Conditions: the tables that the executor asks are the program's. -/
namespace Go.Ex
open Go.RowKit (Below)
section
variable {N : Nat} {σ : Sg} {h : AH} {w : World} {P : Program} {G : Gl} {A : Array Value} {tm : T SV} {nt : Nat}

theorem ofBytes_ok : ∀ (s : List UInt8) (τ : Sg), VRL τ (ofBytes s) (s.map fun b => Value.int .u8 b.toNat)
  | [], _ => rfl
  | _ :: r, τ => ⟨_, _, rfl, rfl, ofBytes_ok r τ⟩
theorem ofBytes_length : ∀ (s : List UInt8), (ofBytes s).length = s.length
  | [] => rfl
  | _ :: r => by simp [ofBytes, ofBytes_length r]
theorem eConv_ok (K : GlOk P G) {src dst : TypeId} {x : Operand} {v : SV} {h' : AH} (hsrc : G.ut src = some .string) (he : eConv G src dst x tm h = .val v h') :
    ∃ obj, h' = h.new obj ∧ ∀ (σ : Sg) (A : Array Value) (w : World), TmR σ tm nt A → Glob σ → σ h.next = none →
      NewR σ w h.next v obj ((do pure (.value (← convert src dst (rho A x))) : Sem Next).run P w) := by
  unfold eConv at he
  split at he
  · rename_i u hu
    rw [hsrc] at he
    simp only [convT] at he
    unfold ofR at he
    split at he
    · rename_i v1 h1 hb
      cases he
      unfold convNew at hb
      split at hb
      · rename_i s
        split at hb
        · rename_i sd el hs hd
          split at hb
          · rename_i he8
            cases hb
            refine ⟨_, rfl, fun σ A w hT hg hn => ?_⟩
            have hx := evalQ_ok hT hg hu
            simp only [VR] at hx
            obtain ⟨S, hS, hdat⟩ := hx
            have hsz : S.size = s.length := by rw [← hdat]; simp
            -- the run
            let q := Question.appendCap S.size 0 el
            let cap := q.cut (w.tape w.drawn q)
            have hcap : S.size ≤ cap := by show S.size ≤ S.size + _; omega
            let C : Array Value := S.data.map fun b => .int .u8 b.toNat
            let R : Array Value := Array.replicate (cap - S.size) (.int .u8 0)
            have hCs : C.size = S.size := by simp [C]
            have hRs : R.size = cap - S.size := by simp [R]
            have hn1 : (C ++ R).size = cap := by simp [hCs, hRs]; omega
            let w1 := w.drew.alloc (.cells (C ++ R) el)
            let w2 := w1.freeze ⟨w.heap.size, (C ++ R).size, none⟩ 1
            have hheap1 : w1.heap = w.heap.push (.cells (C ++ R) el (0, 0)) := rfl
            have hheap2 : w2.heap = w.heap.push (.cells (C ++ R) el ((C ++ R).size, (C ++ R).size + 1)) := by
              show (w1.freeze _ 1).heap = _
              unfold World.freeze
              rw [if_neg (by decide)]
              simp only [hheap1]
              apply Array.ext_getElem?
              intro i
              rw [Array.getElem?_modify, Array.getElem?_push, Array.getElem?_push]
              by_cases hi : i = w.heap.size
              · subst hi
                simp
              · rw [if_neg hi, if_neg hi, if_neg (Ne.symm hi)]
            have hrun : (Conv.stringToBytes el S).run P w = .ok (.slice (some ⟨w.heap.size, 0, none⟩) S.size cap) w2 := by
              unfold Conv.stringToBytes
              rw [Sem.run_bind, run_choose, if_neg (by simp [Question.forced]), Result.andThen_ok]
              simp only [Sem.run_bind, run_newRow, Result.andThen_ok, Sem.run_pure, markStringish]
              have hsh : (w1.shape? w.heap.size) = some (el, (C ++ R).size) := by
                simp only [World.shape?, hheap1]
                simp
              show (((shape w.heap.size).run P w1).andThen _).andThen _ = _
              rw [run_shape, Result.andThen_ok, hsh]
              rfl
            have hconv : (convert src dst (rho A x)).run P w = .ok (.slice (some ⟨w.heap.size, 0, none⟩) S.size cap) w2 := by
              rw [hS]
              unfold convert
              rw [Sem.run_bind, run_underlying' K hs, Result.andThen_ok, Sem.run_bind, run_underlying' K hd, Result.andThen_ok]
              have : (do
                  match ← underlying el with
                  | .int .u8 => Conv.stringToBytes el S
                  | .int .i32 => Conv.stringToRunes el S
                  | _ => stuck "Convert: string to a slice of what?" : Sem Value).run P w = .ok (.slice (some ⟨w.heap.size, 0, none⟩) S.size cap) w2 := by
                rw [Sem.run_bind, run_underlying' K he8, Result.andThen_ok]
                exact hrun
              cases sd <;> exact this
            rw [run_v hconv]
            refine ⟨(C ++ R).size, _, w2, _, rfl, hheap2, below_push hheap2 rfl rfl rfl, ?_, ?_⟩
            · have hh : w2.heap[w.heap.size]? = some (.cells (C ++ R) el ((C ++ R).size, (C ++ R).size + 1)) := by rw [hheap2, push_get]
              refine cellsR_new hh (.inr (Nat.le_refl _)) ?_
              have := ofBytes_ok s (σ.put h.next (w.heap.size, 0, (C ++ R).size))
              rw [← hdat] at this ⊢
              simpa [C] using this
            · rw [hn1]
              have := slice_new σ h.next cap s.length s.length cap 1 false w (Nat.le_refl _) (by omega) (by simp) (by omega)
              rw [hsz]
              exact this
          · cases hb
        · cases hb
      · cases hb
    · cases he
  · cases he
/-- every operation of the kind -/
theorem new_ok (K : GlOk P G) {o : Oper} {v : SV} {h' : AH} (he : opE G o.op tm h = .val v h') (hi : isNew G o.op = true) :
    ∃ obj, h' = h.new obj ∧ ∀ (σ : Sg) (A : Array Value) (w : World), TmR σ tm nt A → Glob σ → σ h.next = none → NewR σ w h.next v obj ((execOp (rho A) o).run P w) := by
  unfold execOp
  cases ho : o.op <;> rw [ho] at he hi <;> simp only [isNew] at hi <;> (first | (cases hi; done) | skip) <;> simp only [opE] at he <;> simp only
  case alloc e =>
    obtain ⟨obj, a, b⟩ := eAlloc_ok (P := P) K he
    exact ⟨obj, a, fun σ A w _ _ _ => b σ w⟩
  case box e x => exact eBox_ok (P := P) he
  case buildSlice t n ps => exact eBSl_ok (P := P) K he
  case makeMap t r => exact eMkM_ok (P := P) K he
  case makeSlice t l c => exact eMkS_ok (P := P) K he
  case convert s d x =>
    have hs : G.ut s = some .string := by
      split at hi
      · cases hu : G.ut s with
        | none => rw [hu] at hi; cases hi
        | some D => rw [hu] at hi; cases D <;> first | rfl | cases hi
      · cases hi
    exact eConv_ok (P := P) K hs he
end
end Go.Ex

/- Operations that write: stores and maps. Conditions: the tables that the executor asks are the program's. -/
namespace Go.Ex
open Go.RowKit (Below)
section
variable {N : Nat} {σ : Sg} {h : AH} {w : World} {P : Program} {G : Gl} {A : Array Value} {tm : T SV} {nt : Nat}

def valOf : Next → Option Value
  | .value v => some v
  | .skip => some undef
  | _ => none
/-- a result that hands back a value, the worlds changed alike -/
def EffR (N nx : Nat) (σ : Sg) (w : World) (v : SV) (h' : AH) (r : Result Next) : Prop :=
  ∃ τ x y w', r = .ok x w' ∧ valOf x = some y ∧ Sg.up nx σ τ ∧ HR N τ h' w' ∧ VR τ v y ∧ Below N w w'
theorem effR_skip {h' : AH} {s : Sem Unit} {w' : World} (e : s.run P w = .ok () w') (H : HR N σ h' w') (hb : Below N w w') :
    EffR N h.next σ w (.tup []) h' ((do s; pure .skip : Sem Next).run P w) := by
  refine ⟨σ, .skip, undef, w', ?_, rfl, (Sg.up_refl _ σ), H, ⟨#[], rfl, rfl⟩, hb⟩
  rw [Sem.run_bind, e]
  rfl
theorem effR_val {h' : AH} {s : Sem Value} {y : Value} {v : SV} {w' : World} (e : s.run P w = .ok y w') (H : HR N σ h' w') (hv : VR σ v y) (hb : Below N w w') :
    EffR N h.next σ w v h' ((do pure (.value (← s)) : Sem Next).run P w) :=
  ⟨σ, .value y, y, w', run_v e, rfl, (Sg.up_refl _ σ), H, hv, hb⟩
theorem newR_eff {v : SV} {o : AObj} {r : Result Next} (H : HR N σ h w) (k : NewR σ w h.next v o r) : EffR N h.next σ w v (h.new o) r := by
  obtain ⟨n, y, w', ob, h1, h2, h3, h4, h5⟩ := k
  exact ⟨_, _, y, w', h1, rfl, Sg.up_put _ (H.fresh _ (Nat.le_refl _)) (Nat.le_refl _), H.new h2 h4, h5, h3.mono H.big.2⟩

theorem eStore_ok (K : GlOk P G) (H : HR N σ h w) (hT : TmR σ tm nt A) (hg : Glob σ) {t : TypeId} {a x : Operand} {v : SV} {h' : AH} (he : eStore G t a x tm h = .val v h') :
    EffR N h.next σ w v h' ((do Instr.storeAt t (rho A a) (rho A x); pure .skip : Sem Next).run P w) := by
  unfold eStore at he
  split at he
  · rename_i b off ha
    split at he
    · rename_i y hy
      unfold stAt at he
      split at he
      · rename_i n hn
        split at he
        · rename_i hlen
          unfold ofH at he
          split at he
          · rename_i h1 hst
            cases he
            have hav := evalQ_ok hT hg ha
            simp only [VR] at hav
            obtain ⟨cb, d, m, hs, hd, hav⟩ := hav
            have hyv := (evalQ_ok hT hg hy).cells
            obtain ⟨w', r1, r2, r3⟩ := H.store (P := P) hs hd hst hyv
            refine effR_skip ?_ r2 r3
            rw [hav]
            unfold Instr.storeAt Instr.sureAddr
            rw [Sem.run_bind, Sem.run_pure, Result.andThen_ok]
            unfold storeVar
            have hsz : (rho A x).cells.size = n := by
              have := hyv.length
              have h2 := beq_true.1 hlen
              simp at this
              omega
            simp only [Sem.run_bind, run_sizeOf K hn, Result.andThen_ok, hsz]
            simp only [ne_eq, not_true_eq_false, if_false]
            exact r1
          · cases he
        · cases he
      · cases he
    · cases he
  · cases he

/-! ### maps -/
theorem run_setObj {cb : Nat} {o o' : Obj} (e : w.heap[cb]? = some o) (hn : ∀ c t f, o ≠ .cells c t f) : (setObj cb o').run P w = .ok () (w.putObj cb o') := by
  cases o <;> first | (exact absurd rfl (hn _ _ _)) | (simp [setObj, Sem.run, e, World.putObj])
theorem sameNow_eq {D : TypeDesc} {a b : Value} (e : Instr.sameNow D a b = some true) : Instr.sameBits 10000 b a = true := by
  unfold Instr.sameNow at e
  split at e
  · split at e
    · rename_i k a' k' b' hk
      cases hk
      simp only [Option.some.injEq, beq_iff_eq] at e
      subst e
      simp [Instr.sameBits]
    · cases e
  · rename_i a' b'
    simp only [Option.some.injEq] at e
    have hb : (a' == b') = (a'.data == b'.data) := rfl
    rw [hb] at e
    have h2 : a'.data = b'.data := by simpa using e
    show (b' == a') = true
    have hb' : (b' == a') = (b'.data == a'.data) := rfl
    rw [hb', h2]
    simp
  · simp only [Option.some.injEq, beq_iff_eq] at e
    subst e
    simp [Instr.sameBits]
  · cases e
theorem keyStays {D : TypeDesc} {a b : Value} (e : Instr.sameNow D a b = some true) : (Instr.keyThatStays b a).run P w = .ok a w := by
  unfold Instr.keyThatStays
  rw [if_pos (sameNow_eq e)]
  rfl
theorem setNth_ok {R : (SV × SV × Nat) → MapEntry → Prop} {f : SV × SV × Nat → SV × SV × Nat} {g : MapEntry → MapEntry} :
    ∀ (es : List (SV × SV × Nat)) (E : List MapEntry) (i : Nat), All2 R es E → (∀ a b, es[i]? = some a → E[i]? = some b → R (f a) (g b)) → All2 R (setNth es i f) (E.modify i g)
  | [], _, i, hE, _ => by cases hE; simp [setNth]; exact .nil
  | a :: r, _, i, hE, hf => by
    cases hE with
    | cons h1 h2 =>
      rename_i b s
      cases i with
      | zero => exact .cons (hf a b (by simp) (by simp)) h2
      | succ i => exact .cons h1 (setNth_ok r s i h2 (fun x y hx hy => hf x y (by simpa using hx) (by simpa using hy)))
theorem modify_toList (E : Array MapEntry) (i : Nat) (g : MapEntry → MapEntry) : (E.modify i g).toList = E.toList.modify i g := by simp
theorem HR.putMap (H : HR N σ h w) {b cb d n clock clock' : Nat} {es es' : List (SV × SV × Nat)} {E E' : Array MapEntry} (hb : h.t.get b = some (.map es clock)) (hs : σ b = some (cb, d, n))
    (hE : w.heap[cb]? = some (.map E clock)) (hE' : All2 (EntR σ) es' E'.toList) :
    HR N σ (h.put b (.map es' clock')) (w.putObj cb (.map E' clock')) ∧ Below N w (w.putObj cb (.map E' clock')) := by
  have hlt : cb < w.heap.size := (Array.getElem?_eq_some_iff.1 hE).1
  have hbase : base ≤ b := by
    rcases Nat.lt_or_ge b base with h1 | h1
    · obtain ⟨k, hk⟩ := H.nc _ _ hb h1
      cases hk
    · exact h1
  refine ⟨H.put hb hs (by simp) (fun c hc => by rw [putObj_get hlt, if_neg hc]) (by simp) ⟨E', by rw [putObj_get hlt, if_pos rfl], hE'⟩, below_putObj _ (H.low _ _ _ _ hs hbase)⟩
end
end Go.Ex

/- Operations on maps that write. Conditions: the tables that the executor asks are the program's. -/
namespace Go.Ex
open Go.RowKit (Below)
section
variable {N : Nat} {σ : Sg} {h : AH} {w : World} {P : Program} {G : Gl} {A : Array Value} {tm : T SV} {nt : Nat}

theorem All2.get2 {α β : Type} {R : α → β → Prop} {l : List α} {m : List β} (k : All2 R l m) : ∀ {i : Nat} {a : α} {b : β}, l[i]? = some a → m[i]? = some b → R a b := by
  induction k with
  | nil => intro i a b ha; simp at ha
  | cons h1 h2 ih =>
    intro i a b ha hb
    cases i with
    | zero => simp at ha hb; subst ha hb; exact h1
    | succ i => exact ih (by simpa using ha) (by simpa using hb)
/-- what a look into a map that is held comes to -/
theorem findHeld (K : GlOk P G) (H : HR N σ h w) {_t kt _el : TypeId} {b : Nat} {k : SV} {kv v : Value} {es : List (SV × SV × Nat)} {clock : Nat} {r : Option (Nat × SV × Nat)}
    (hx : VR σ (.map b) v) (hk : VR σ k kv) (hb : h.t.get b = some (.map es clock)) (hp : plainKey G kt k = true) (hf : findKey k es 0 = some r) :
    ∃ cb d n E, σ b = some (cb, d, n) ∧ v = .map (some cb) ∧ w.heap[cb]? = some (.map E clock) ∧ All2 (EntR σ) es E.toList ∧
      (∀ q, (Instr.checkKey q 10000 kt kv).run P w = .ok () w) ∧
      match r with
      | none => (Instr.findKey kt kv E.toList).run P w = .ok none w
      | some (j, x, s) => ∃ z k' e' D, (Instr.findKey kt kv E.toList).run P w = .ok (some (j, z)) w ∧ VR σ x z ∧ es[j]? = some (k', x, s) ∧ E[j]? = some e' ∧ e'.val = z ∧ e'.born = s ∧ Instr.sameNow D kv e'.key = some true := by
  obtain ⟨D, hD⟩ := plain_desc hp
  simp only [VR] at hx
  obtain ⟨cb, d, n, hs, rfl⟩ := hx
  obtain ⟨E, hE, hA⟩ := H.map hb hs
  obtain ⟨r', h1, h2⟩ := findKey_ok hD hp hk es E.toList 0 r hA hf
  refine ⟨cb, d, n, E, hs, rfl, hE, hA, fun q => checkKey_ok K hp hk, ?_⟩
  cases r with
  | none => subst h2; exact run_findKey K hD h1
  | some q =>
    obtain ⟨j, x, s⟩ := q
    obtain ⟨z, rfl, c2, _, k', e', c4, c5, c6, c7, c8⟩ := h2
    rw [Nat.sub_zero] at c4 c5
    exact ⟨z, k', e', D, run_findKey K hD h1, c2, c4, by rw [← Array.getElem?_toList]; exact c5, c6, c7, c8⟩

theorem mapUpd_ok (K : GlOk P G) (H : HR N σ h w) {t : TypeId} {x k y : SV} {v kv yv : Value} {h' : AH} (hx : VR σ x v) (hk : VR σ k kv) (hy : VR σ y yv) (e : mapUpd G t x k y h = some h') :
    ∃ w', (Instr.mapUpdate t v kv yv).run P w = .ok () w' ∧ HR N σ h' w' ∧ Below N w w' := by
  unfold mapUpd at e
  split at e
  · rename_i b
    split at e
    · rename_i kt el es clock hu hb
      split at e
      · rename_i hp
        split at e
        · rename_i i x0 s0 hf
          cases e
          obtain ⟨cb, d, n, E, hs, rfl, hE, hA, hck, z, k', e', D, hfk, hxz, hes, hEi, hv, hborn, hsame⟩ := findHeld K H (_t := t) (_el := el) hx hk hb hp hf
          have hkeep : (Instr.keyThatStays (((E[i]?).map (·.key)).getD kv) kv).run P w = .ok kv w := by rw [hEi]; exact keyStays hsame
          obtain ⟨q1, q2⟩ := H.putMap (es' := setNth es i fun (_, _, s) => (k, y, s)) (E' := E.modify i fun e => { e with key := kv, val := yv }) (clock' := clock) hb hs hE (by
            rw [modify_toList]
            refine setNth_ok _ _ _ hA (fun a b ha hb' => ?_)
            rw [hes] at ha
            cases ha
            rw [Array.getElem?_toList, hEi] at hb'
            cases hb'
            exact ⟨hk, hy, hborn⟩)
          refine ⟨_, ?_, q1, q2⟩
          unfold Instr.mapUpdate
          simp only [Sem.run_bind, run_underlying' K hu, Result.andThen_ok, run_getObj_map hE, hck, hfk, hkeep]
          exact run_setObj hE (by simp)
        · rename_i hf
          cases e
          obtain ⟨cb, d, n, E, hs, rfl, hE, hA, hck, hfk⟩ := findHeld K H (_t := t) (_el := el) hx hk hb hp hf
          obtain ⟨q1, q2⟩ := H.putMap (es' := es ++ [(k, y, clock)]) (E' := E.push { key := kv, val := yv, born := clock }) (clock' := clock + 1) hb hs hE (by
            rw [Array.toList_push]
            exact hA.append (.cons ⟨hk, hy, rfl⟩ .nil))
          refine ⟨_, ?_, q1, q2⟩
          unfold Instr.mapUpdate
          simp only [Sem.run_bind, run_underlying' K hu, Result.andThen_ok, run_getObj_map hE, hck, hfk]
          exact run_setObj hE (by simp)
        · cases e
      · cases e
    · cases e
  · cases e

theorem mapEnt_ok (K : GlOk P G) (H : HR N σ h w) {t : TypeId} {x k y : SV} {v kv : Value} {h' : AH} (hx : VR σ x v) (hk : VR σ k kv) (e : mapEnt G t x k h = some (y, h')) :
    ∃ yv w', (Instr.mapEntry t v kv).run P w = .ok yv w' ∧ VR σ y yv ∧ HR N σ h' w' ∧ Below N w w' := by
  unfold mapEnt at e
  split at e
  · rename_i b
    split at e
    · rename_i kt el es clock hu hb
      split at e
      · rename_i hp
        split at e
        · rename_i i x0 s0 hf
          cases e
          obtain ⟨cb, d, n, E, hs, rfl, hE, hA, hck, z, k', e', D, hfk, hxz, hes, hEi, hv, hborn, hsame⟩ := findHeld K H (_t := t) (_el := el) hx hk hb hp hf
          have hkeep : (Instr.keyThatStays (((E[i]?).map (·.key)).getD kv) kv).run P w = .ok kv w := by rw [hEi]; exact keyStays hsame
          obtain ⟨q1, q2⟩ := H.putMap (es' := setNth es i fun (_, v, s) => (k, v, s)) (E' := E.modify i fun e => { e with key := kv }) (clock' := clock) hb hs hE (by
            rw [modify_toList]
            refine setNth_ok _ _ _ hA (fun a b ha hb' => ?_)
            rw [hes] at ha
            cases ha
            rw [Array.getElem?_toList, hEi] at hb'
            cases hb'
            exact ⟨hk, hv ▸ hxz, hborn⟩)
          refine ⟨.tuple #[z, goInt (((E[i]?).map (·.born)).getD 0)], _, ?_, ?_, q1, q2⟩
          · unfold Instr.mapEntry
            simp only [Sem.run_bind, run_underlying' K hu, Result.andThen_ok, run_getObj_map hE, hck, hfk, hkeep, run_setObj hE (by simp : ∀ c t f, Obj.map E clock ≠ Obj.cells c t f)]
            rfl
          · rw [hEi]
            refine ⟨_, rfl, _, _, rfl, hxz, _, _, rfl, ?_, rfl⟩
            simp only [Option.map_some, Option.getD_some, hborn]
            rfl
        · rename_i hf
          split at e
          · rename_i z hz
            cases e
            obtain ⟨cb, d, n, E, hs, rfl, hE, hA, hck, hfk⟩ := findHeld K H (_t := t) (_el := el) hx hk hb hp hf
            obtain ⟨zv, hzr, hzv⟩ := zero_val K hz
            obtain ⟨q1, q2⟩ := H.putMap (es' := es ++ [(k, z, clock)]) (E' := E.push { key := kv, val := zv, born := clock }) (clock' := clock + 1) hb hs hE (by
              rw [Array.toList_push]
              exact hA.append (.cons ⟨hk, hzv σ, rfl⟩ .nil))
            refine ⟨.tuple #[zv, goInt clock], _, ?_, ?_, q1, q2⟩
            · unfold Instr.mapEntry
              simp only [Sem.run_bind, run_underlying' K hu, Result.andThen_ok, run_getObj_map hE, hck, hfk, hzr, run_setObj hE (by simp : ∀ c t f, Obj.map E clock ≠ Obj.cells c t f)]
              rfl
            · exact ⟨_, rfl, _, _, rfl, hzv σ, _, _, rfl, rfl, rfl⟩
          · cases e
        · cases e
      · cases e
    · cases e
  · cases e

theorem entryIdx_ok {s : Int} : ∀ (es : List (SV × SV × Nat)) (E : List MapEntry) (i j : Nat), All2 (EntR σ) es E → entryIdx s es i = some j →
    i ≤ j ∧ E.findIdx? (fun e => (e.born : Int) == s) = some (j - i)
  | [], _, _, _, _, e => by simp [entryIdx] at e
  | (k, v, b) :: r, E, i, j, hE, e => by
    cases hE with
    | cons h1 h2 =>
      rename_i e' E'
      obtain ⟨_, _, a3⟩ := h1
      simp only at a3
      simp only [entryIdx] at e
      rw [List.findIdx?_cons]
      split at e
      · rename_i hq
        cases e
        rw [eqF_eq] at hq
        have : ((e'.born : Int) == s) = true := by rw [a3]; simpa using hq
        rw [this]
        simp
      · rename_i hq
        rw [eqF_eq] at hq
        have : ((e'.born : Int) == s) = false := by rw [a3]; simpa using hq
        rw [this]
        obtain ⟨c1, c2⟩ := entryIdx_ok r E' (i + 1) j h2 e
        refine ⟨by omega, ?_⟩
        simp only [Bool.false_eq_true, if_false, c2, Option.map_some, Option.some.injEq]
        omega

theorem entStore_ok (H : HR N σ h w) {t : TypeId} {x s y : SV} {v sv yv : Value} {h' : AH} (hx : VR σ x v) (hs' : VR σ s sv) (hy : VR σ y yv) (e : entStore x s y h = some h') :
    ∃ w', (Instr.entryStore t v sv yv).run P w = .ok () w' ∧ HR N σ h' w' ∧ Below N w w' := by
  unfold entStore at e
  split at e
  · rename_i b ki s
    split at e
    · rename_i es clock hb
      split at e
      · rename_i i hi
        cases e
        simp only [VR] at hx hs'
        obtain ⟨cb, d, n, hs, rfl⟩ := hx
        subst hs'
        obtain ⟨E, hE, hA⟩ := H.map hb hs
        obtain ⟨_, hidx⟩ := entryIdx_ok es E.toList 0 i hA hi
        obtain ⟨q1, q2⟩ := H.putMap (es' := setNth es i fun (k, _, s) => (k, y, s)) (E' := E.modify i fun e => { e with val := yv }) (clock' := clock) hb hs hE (by
          rw [modify_toList]
          refine setNth_ok _ _ _ hA (fun a b ha hb' => ?_)
          have : EntR σ a b := by
            exact hA.get2 ha hb'
          exact ⟨this.1, hy, this.2.2⟩)
        refine ⟨_, ?_, q1, q2⟩
        have hfi : E.findIdx? (fun e => (e.born : Int) == s) = some i := by
          have := List.findIdx?_toArray (p := fun e : MapEntry => (e.born : Int) == s) (l := E.toList)
          simpa [hidx] using this
        unfold Instr.entryStore
        simp only [Sem.run_bind, Result.andThen_ok, run_getObj_map hE, asInt, asIntOf, Sem.run_pure, hfi]
        exact run_setObj hE (by simp)
      · cases e
    · cases e
  · cases e
theorem dropNth_ok {R : (SV × SV × Nat) → MapEntry → Prop} : ∀ (es : List (SV × SV × Nat)) (E : List MapEntry) (i : Nat), All2 R es E → All2 R (dropNth es i) (E.eraseIdx i)
  | [], _, i, hE => by cases hE; simp [dropNth]; exact .nil
  | a :: r, _, i, hE => by
    cases hE with
    | cons h1 h2 =>
      cases i with
      | zero => exact h2
      | succ i => exact .cons h1 (dropNth_ok r _ i h2)
theorem delete_ok (K : GlOk P G) (H : HR N σ h w) {t rt : TypeId} {ts : Array TypeId} {x k y : SV} {v kv : Value} {h' : AH} (ht : ts[0]? = some t) (hx : VR σ x v) (hk : VR σ k kv) (e : deleteSV G t x k h = some (y, h')) :
    ∃ yv w', (Builtin.delete_ ts rt #[v, kv]).run P w = .ok yv w' ∧ VR σ y yv ∧ HR N σ h' w' ∧ Below N w w' := by
  have i1 : (#[v, kv] : Array Value)[1]? = some kv := rfl
  have i0 : (#[v, kv] : Array Value)[0]? = some v := rfl
  unfold deleteSV at e
  split at e
  · rename_i b
    split at e
    · rename_i kt el es clock hu hb
      split at e
      · rename_i hp
        split at e
        · rename_i i x0 s0 hf
          cases e
          obtain ⟨cb, d, n, E, hs, rfl, hE, hA, hck, z, k', e', D, hfk, hxz, hes, hEi, hv, hborn, hsame⟩ := findHeld K H (_t := t) (_el := el) hx hk hb hp hf
          obtain ⟨q1, q2⟩ := H.putMap (es' := dropNth es i) (E' := E.eraseIdxIfInBounds i) (clock' := clock) hb hs hE (by
            rw [Array.toList_eraseIdxIfInBounds]
            exact dropNth_ok _ _ _ hA)
          refine ⟨.tuple #[], _, ?_, ⟨#[], rfl, rfl⟩, q1, q2⟩
          unfold Builtin.delete_
          simp only [ht, i0, i1, Sem.run_bind, run_underlying' K hu, Result.andThen_ok, run_getObj_map hE, hck, hfk, run_setObj hE (by simp : ∀ c t f, Obj.map E clock ≠ Obj.cells c t f)]
          rfl
        · rename_i hf
          cases e
          obtain ⟨cb, d, n, E, hs, rfl, hE, hA, hck, hfk⟩ := findHeld K H (_t := t) (_el := el) hx hk hb hp hf
          refine ⟨.tuple #[], w, ?_, ⟨#[], rfl, rfl⟩, H, Below.refl _ _⟩
          unfold Builtin.delete_
          simp only [ht, i0, i1, Sem.run_bind, run_underlying' K hu, Result.andThen_ok, run_getObj_map hE, hck, hfk, run_setObj hE (by simp : ∀ c t f, Obj.map E clock ≠ Obj.cells c t f)]
          rw [putObj_same hE]
          rfl
        · cases e
      · cases e
    · cases e
  · split at e
    · rename_i kt el hu
      split at e
      · rename_i hp
        cases e
        simp only [VR] at hx
        subst hx
        refine ⟨.tuple #[], w, ?_, ⟨#[], rfl, rfl⟩, H, Below.refl _ _⟩
        unfold Builtin.delete_
        simp only [ht, i0, i1, Sem.run_bind, run_underlying' K hu, Result.andThen_ok, checkKey_ok K hp hk]
        rfl
      · cases e
    · cases e
  · cases e
end
end Go.Ex

/- Ranges over maps and texts. Conditions: the tables that the executor asks are the program's. -/
namespace Go.Ex
open Go.RowKit (Below)
section
variable {N : Nat} {σ : Sg} {h : AH} {w : World} {P : Program} {G : Gl} {A : Array Value} {tm : T SV} {nt : Nat}

theorem eRange_ok (K : GlOk P G) (H : HR N σ h w) (hT : TmR σ tm nt A) (hg : Glob σ) {t : TypeId} {x : Operand} {v : SV} {h' : AH} (he : eRange G t x tm h = .val v h') :
    EffR N h.next σ w v h' ((do pure (.value (← Instr.range t (rho A x))) : Sem Next).run P w) := by
  have hf : σ h.next = none := H.fresh _ (Nat.le_refl _)
  unfold eRange at he
  split at he
  · rename_i s hu hx
    cases he
    have h1 := evalQ_ok hT hg hx
    simp only [VR] at h1
    obtain ⟨S, h1, hS⟩ := h1
    have hrun : (Instr.range t (rho A x)).run P w = .ok (.pointer (some ⟨w.heap.size, 0, none⟩)) (w.alloc (.stringIter S 0)) := by
      unfold Instr.range
      rw [h1]
      simp only [Sem.run_bind, run_underlying' K hu, Result.andThen_ok]
      rfl
    rw [run_v hrun]
    exact newR_eff H ⟨0, _, _, _, rfl, rfl, below_push rfl rfl rfl rfl, ⟨S, by rw [alloc_heap, push_get], hS, rfl⟩, ptr_new _ _ _ _⟩
  · rename_i kt el hu hx
    cases he
    have h1 := evalQ_ok hT hg hx
    simp only [VR] at h1
    have hrun : (Instr.range t (rho A x)).run P w = .ok (.pointer (some ⟨w.heap.size, 0, none⟩)) (w.alloc (.mapIter none 0 #[] 0)) := by
      unfold Instr.range
      rw [h1]
      simp only [Sem.run_bind, run_underlying' K hu, Result.andThen_ok]
      rfl
    rw [run_v hrun]
    exact newR_eff H ⟨0, _, _, _, rfl, rfl, below_push rfl rfl rfl rfl, ⟨none, by rw [alloc_heap, push_get], rfl, rfl⟩, ptr_new _ _ _ _⟩
  · rename_i kt el m hu hx
    unfold rangeM at he
    split at he
    · rename_i es clock hm
      cases he
      have h1 := evalQ_ok hT hg hx
      simp only [VR] at h1
      obtain ⟨cb, d, n, hs, h1⟩ := h1
      obtain ⟨E, hE, hA⟩ := H.map hm hs
      have hrun : (Instr.range t (rho A x)).run P w = .ok (.pointer (some ⟨w.heap.size, 0, none⟩)) (w.alloc (.mapIter (some cb) clock #[] clock)) := by
        unfold Instr.range
        rw [h1]
        simp only [Sem.run_bind, run_underlying' K hu, Result.andThen_ok, run_getObj_map hE]
        rfl
      rw [run_v hrun]
      exact newR_eff H ⟨0, _, _, _, rfl, rfl, below_push rfl rfl rfl rfl, ⟨some cb, by rw [alloc_heap, push_get], ⟨cb, d, n, Sg.le_put _ hf _ _ hs, rfl⟩, rfl⟩, ptr_new _ _ _ _⟩
    · cases he
  · cases he

theorem filtE_ok {p : Nat → Bool} {q : MapEntry → Bool} (hpq : ∀ e : MapEntry, q e = p e.born) : ∀ {es : List (SV × SV × Nat)} {E : List MapEntry}, All2 (EntR σ) es E → All2 (EntR σ) (filtE p es) (E.filter q)
  | [], _, hE => by cases hE; exact .nil
  | (k, v, b) :: r, _, hE => by
    cases hE with
    | cons h1 h2 =>
      rename_i e E
      have a3 : e.born = b := h1.2.2
      simp only [filtE]
      have ih := filtE_ok hpq h2
      cases hp : p b with
      | true => rw [List.filter_cons_of_pos (by rw [hpq, a3, hp])]; exact .cons h1 ih
      | false => rw [List.filter_cons_of_neg (by rw [hpq, a3, hp]; simp)]; exact ih
theorem memN_eq (b : Nat) : ∀ l : List Nat, memN b l = l.contains b
  | [] => rfl
  | a :: r => by
    simp only [memN, List.contains_cons]
    cases h : Nat.beq a b with
    | true => have := beq_true.1 h; subst this; simp
    | false => have := beq_false.1 h; rw [memN_eq b r]; simp [Ne.symm this]
theorem All2.isEmpty {α β : Type} {R : α → β → Prop} {l : List α} {m : List β} (k : All2 R l m) : l.isEmpty = m.isEmpty := by cases k <;> rfl
theorem All2.map {α β γ δ : Type} {R : α → β → Prop} {S : γ → δ → Prop} {f : α → γ} {g : β → δ} (hf : ∀ a b, R a b → S (f a) (g b)) {l : List α} {m : List β} (k : All2 R l m) : All2 S (l.map f) (m.map g) := by
  induction k with
  | nil => exact .nil
  | cons a _ ih => exact .cons (hf _ _ a) ih
theorem All2.left {α β : Type} {R : α → β → Prop} {l : List α} {m : List β} (k : All2 R l m) : ∀ {i : Nat} {b : β}, m[i]? = some b → ∃ a, l[i]? = some a ∧ R a b := by
  induction k with
  | nil => intro i b hb; simp at hb
  | cons h1 h2 ih =>
    intro i b hb
    cases i with
    | zero => simp at hb; subst hb; exact ⟨_, by simp, h1⟩
    | succ i => obtain ⟨a, a1, a2⟩ := ih (i := i) (by simpa using hb); exact ⟨a, by simpa using a1, a2⟩

/-- a step of a range -/
def EffA (N nx : Nat) (σ : Sg) (w : World) (l : List (SV × AH)) (r : Result Next) : Prop := ∃ v h', (v, h') ∈ l ∧ EffR N nx σ w v h' r

theorem run_choose (q : Question) (w : World) : ∃ n w', (choose q).run P w = .ok n w' ∧ w'.heap = w.heap ∧ Below w.heap.size w w' ∧ (q.forced = true ∧ n = 0 ∨ ∃ t, n = q.cut t) := by
  by_cases hq : q.forced = true
  · exact ⟨0, w, by simp [choose, Sem.run, hq], rfl, Below.refl _ _, .inl ⟨hq, rfl⟩⟩
  · refine ⟨_, { w with drawn := w.drawn + 1 }, by simp only [choose, Sem.run, hq]; rfl, rfl, ⟨rfl, rfl, rfl, Nat.le_refl _, fun _ _ => rfl⟩, .inr ⟨_, rfl⟩⟩

theorem HR.putObj1 (H : HR N σ h w) {b cb d n : Nat} {o o2 : AObj} {ob : Obj} (hb : h.t.get b = some o) (hs : σ b = some (cb, d, n)) (hno : ∀ k, o ≠ .cells k) (hlt : cb < w.heap.size)
    (ho : ∀ w' : World, w'.heap[cb]? = some ob → ObjR σ o2 cb d n w') : HR N σ (h.put b o2) (w.putObj cb ob) ∧ Below N w (w.putObj cb ob) := by
  have hbase : base ≤ b := by
    rcases Nat.lt_or_ge b base with h1 | h1
    · obtain ⟨k, hk⟩ := H.nc _ _ hb h1
      exact absurd hk (hno k)
    · exact h1
  exact ⟨H.put hb hs hno (fun c hc => by rw [putObj_get hlt, if_neg hc]) (by simp) (ho _ (by rw [putObj_get hlt, if_pos rfl])), below_putObj _ (H.low _ _ _ _ hs hbase)⟩

theorem next_over {s : Sem Value} (H : HR N σ h w) (e : s.run P w = .ok (.tuple #[.bool false]) w) : EffR N h.next σ w (.tup [.bool false]) h ((do pure (.value (← s)) : Sem Next).run P w) :=
  effR_val e H ⟨_, rfl, _, _, rfl, rfl, rfl⟩ (Below.refl _ _)

theorem nextMap_ok (H : HR N σ h w) {b m cb d n mb md mn : Nat} {since last clock : Nat} {seen : List Nat} {es : List (SV × SV × Nat)} {rt : TypeId} {l : List (SV × AH)}
    (hb : h.t.get b = some (.mapIter (some m) since seen last)) (hs : σ b = some (cb, d, n)) (hm : h.t.get m = some (.map es clock)) (hms : σ m = some (mb, md, mn))
    (hg : (!seen.isEmpty && !es.isEmpty && (filtE (fun b => Nat.blt b last) es).isEmpty) = false)
    (hl : l = ((if (filtE (fun b => Nat.blt b since) (filtE (fun b => !memN b seen) es)).isEmpty then [(SV.tup [.bool false], h)] else []) ++
      (filtE (fun b => Nat.blt b since) (filtE (fun b => !memN b seen) es) ++ filtE (fun b => !Nat.blt b since) (filtE (fun b => !memN b seen) es)).map fun (k, v, s) =>
        (SV.tup [.bool true, k, v], h.put b (.mapIter (some m) since (seen ++ [s]) clock)))) :
    EffA N h.next σ w l ((do pure (.value (← Instr.next (.pointer (some ⟨cb, 0, none⟩)) false rt)) : Sem Next).run P w) := by
  obtain ⟨m', q1, ⟨mb', md', mn', q2, rfl⟩, rfl⟩ := H.obj b _ cb d n hb hs
  rw [hms] at q2
  cases q2
  obtain ⟨E, hE, hA⟩ := H.map hm hms
  have hlt : cb < w.heap.size := (Array.getElem?_eq_some_iff.1 q1).1
  have g1 : (getObj cb).run P w = .ok (.mapIter (some mb) since seen.toArray last) w := by simp [getObj, Sem.run, q1]
  have left : All2 (EntR σ) (filtE (fun b => !memN b seen) es) (E.filter fun e => !seen.toArray.contains e.born).toList := by
    rw [Array.toList_filter]
    exact filtE_ok (fun e => by rw [memN_eq]; simp) hA
  generalize hleft : (E.filter fun e => !seen.toArray.contains e.born) = L at left
  have old : All2 (EntR σ) (filtE (fun b => Nat.blt b since) (filtE (fun b => !memN b seen) es)) (L.filter (·.born < since)).toList := by
    rw [Array.toList_filter]
    exact filtE_ok (fun e => by rw [Bool.eq_iff_iff]; simp) left
  have new : All2 (EntR σ) (filtE (fun b => !Nat.blt b since) (filtE (fun b => !memN b seen) es)) (L.filter (·.born ≥ since)).toList := by
    rw [Array.toList_filter]
    refine filtE_ok (fun e => ?_) left
    cases hq : Nat.blt e.born since with
    | true => have := blt_true.1 hq; simp; omega
    | false => have := blt_false.1 hq; simp; omega
  generalize hold : L.filter (·.born < since) = O at old
  generalize hnew : L.filter (·.born ≥ since) = W at new
  have hgone : (!seen.toArray.isEmpty && !E.isEmpty && E.all (·.born ≥ last)) = false := by
    have e1 : seen.toArray.isEmpty = seen.isEmpty := by simp
    have e2 : E.isEmpty = es.isEmpty := by rw [hA.isEmpty]; simp
    have e3 : E.all (·.born ≥ last) = (filtE (fun b => Nat.blt b last) es).isEmpty := by
      rw [(filtE_ok (q := fun e => decide (e.born < last)) (fun e => by rw [Bool.eq_iff_iff]; simp) hA).isEmpty, ← Array.all_toList, Bool.eq_iff_iff]
      simp
      exact ⟨fun hh a ha => by obtain ⟨i, hi, rfl⟩ := Array.mem_iff_getElem.1 ha; exact hh i hi, fun hh i hi => hh _ (Array.getElem_mem hi)⟩
    rw [e1, e2, e3]
    exact hg
  have cand : All2 (fun (x : SV × AH) (c : Option MapEntry) => match c with
      | none => x = (.tup [.bool false], h)
      | some e => ∃ k v s, x = (.tup [.bool true, k, v], h.put b (.mapIter (some m) since (seen ++ [s]) clock)) ∧ EntR σ (k, v, s) e) l
      ((if O.isEmpty then #[none] else #[]) ++ (O ++ W).map some : Array (Option MapEntry)).toList := by
    rw [hl, Array.toList_append]
    refine All2.append ?_ ?_
    · rw [old.isEmpty]
      rw [Array.isEmpty_toList]
      cases O.isEmpty with
      | true => exact .cons rfl .nil
      | false => exact .nil
    · rw [Array.toList_map, Array.toList_append]
      refine (All2.append old new).map (fun a e hae => ?_)
      obtain ⟨k, v, s⟩ := a
      exact ⟨k, v, s, rfl, hae⟩
  generalize hcand : ((if O.isEmpty then #[none] else #[]) ++ (O ++ W).map some : Array (Option MapEntry)) = C at cand
  have hpos : 0 < C.size := by
    rw [← hcand]
    cases ho : O.isEmpty with
    | true => simp; omega
    | false =>
      have : 0 < O.size := by
        have : O.size ≠ 0 := by simpa [Array.isEmpty] using ho
        omega
      simp
      omega
  obtain ⟨i, w1, hch, hheap, hbel, hi⟩ := run_choose (P := P) (.mapNext C.size) w
  have hi' : i < C.size := by
    rcases hi with ⟨_, rfl⟩ | ⟨t, rfl⟩
    · exact hpos
    · exact Nat.mod_lt _ hpos
  obtain ⟨c, hc⟩ : ∃ c, C[i]? = some c := ⟨C[i], Array.getElem?_eq_getElem hi'⟩
  obtain ⟨x, hx1, hx2⟩ := cand.left (i := i) (b := c) (by rw [Array.getElem?_toList]; exact hc)
  have hmem : x ∈ l := List.mem_of_getElem? hx1
  have H1 : HR N σ h w1 := H.same hheap
  have hB1 : Below N w w1 := hbel.mono H.big.2
  have g2 : (getObj mb).run P w = .ok (.map E clock) w := run_getObj_map hE
  cases c with
  | none =>
    simp only at hx2
    subst hx2
    refine ⟨_, _, hmem, ?_⟩
    have hrun : (Instr.next (.pointer (some ⟨cb, 0, none⟩)) false rt).run P w = .ok (.tuple #[.bool false]) w1 := by
      unfold Instr.next
      simp only [Sem.run_bind, Result.andThen_ok, g1, g2, hgone]
      simp only [Bool.false_eq_true, if_false, Sem.run_bind, Sem.run_pure, Result.andThen_ok, hleft, hold, hnew, hcand, hch, hc]
    exact effR_val hrun H1 ⟨_, rfl, _, _, rfl, rfl, rfl⟩ hB1
  | some e =>
    obtain ⟨k, v, s, rfl, hent⟩ := hx2
    refine ⟨_, _, hmem, ?_⟩
    have hcb1 : w1.heap[cb]? = some (.mapIter (some mb) since seen.toArray last) := by rw [hheap]; exact q1
    have hrun : (Instr.next (.pointer (some ⟨cb, 0, none⟩)) false rt).run P w = .ok (.tuple #[.bool true, e.key, e.val]) (w1.putObj cb (.mapIter (some mb) since (seen.toArray.push e.born) clock)) := by
      unfold Instr.next
      simp only [Sem.run_bind, Result.andThen_ok, g1, g2, hgone]
      simp only [Bool.false_eq_true, if_false, Sem.run_bind, Sem.run_pure, Result.andThen_ok, hleft, hold, hnew, hcand, hch, hc, run_setObj hcb1 (by simp : ∀ c t f, Obj.mapIter (some mb) since seen.toArray last ≠ Obj.cells c t f)]
    have hb1 : h.t.get b = some (.mapIter (some m) since seen last) := hb
    obtain ⟨p1, p2⟩ := H1.putObj1 (o2 := .mapIter (some m) since (seen ++ [s]) clock) (ob := .mapIter (some mb) since (seen.toArray.push e.born) clock) hb1 hs (by simp) (by rw [hheap]; exact hlt)
      (fun w' hw' => ⟨some mb, by rw [hw', hent.2.2]; simp, ⟨mb, _, _, hms, rfl⟩, rfl⟩)
    exact effR_val hrun p1 ⟨_, rfl, _, _, rfl, rfl, _, _, rfl, hent.1, _, _, rfl, hent.2.1, rfl⟩ (hB1.trans p2)
end
end Go.Ex

/- A step of a range; copies, and appends in place. Conditions: the tables that the executor asks are the program's. -/
namespace Go.Ex
open Go.RowKit (Below)
section
variable {N : Nat} {σ : Sg} {h : AH} {w : World} {P : Program} {G : Gl} {A : Array Value} {tm : T SV} {nt : Nat}

/-- what an operation's act says of what the model does: of those that hand back a value -/
def ActV (N nx : Nat) (σ : Sg) (w : World) (a : Act) (r : Result Next) : Prop :=
  match a with
  | .val v h' => EffR N nx σ w v h' r
  | .alts l => EffA N nx σ w l r
  | _ => True

theorem nextStrEnd (H : HR N σ h w) {b cb d n pos : Nat} {s : List UInt8} {rt : TypeId} (hb : h.t.get b = some (.strIter s pos)) (hs : σ b = some (cb, d, n)) (hd : s.drop pos = []) :
    EffR N h.next σ w (.tup [.bool false]) h ((do pure (.value (← Instr.next (.pointer (some ⟨cb, 0, none⟩)) true rt)) : Sem Next).run P w) := by
  obtain ⟨S, q1, q2, rfl⟩ := H.obj b _ cb d n hb hs
  have g1 : (getObj cb).run P w = .ok (.stringIter S pos) w := by simp [getObj, Sem.run, q1]
  have hsize : S.size = s.length := by rw [← q2]; rfl
  have : s.length ≤ pos := List.drop_eq_nil_iff.1 hd
  refine next_over H ?_
  unfold Instr.next
  simp only [Sem.run_bind, g1, Result.andThen_ok]
  rw [if_neg (by omega)]
  rfl
theorem nextStrStep (H : HR N σ h w) {b cb d n pos : Nat} {s rest : List UInt8} {c : UInt8} {rt : TypeId} (hb : h.t.get b = some (.strIter s pos)) (hs : σ b = some (cb, d, n)) (hd : s.drop pos = c :: rest)
    (hc : Nat.blt c.toNat 128 = true) :
    EffR N h.next σ w (.tup [.bool true, i64 pos, .int .i32 (.ofNat c.toNat)]) (h.put b (.strIter s (Nat.succ pos))) ((do pure (.value (← Instr.next (.pointer (some ⟨cb, 0, none⟩)) true rt)) : Sem Next).run P w) := by
  obtain ⟨S, q1, q2, rfl⟩ := H.obj b _ cb d n hb hs
  have hlt : cb < w.heap.size := (Array.getElem?_eq_some_iff.1 q1).1
  have g1 : (getObj cb).run P w = .ok (.stringIter S pos) w := by simp [getObj, Sem.run, q1]
  have hsize : S.size = s.length := by rw [← q2]; rfl
  have hc' := blt_true.1 hc
  have hpos : pos < s.length := by
    rcases Nat.lt_or_ge pos s.length with h1 | h1
    · exact h1
    · rw [List.drop_eq_nil_iff.2 h1] at hd; cases hd
  have hget : S.get! (pos + 0) = c := by
    have h1 : S.data.toList[pos]? = some c := by
      rw [q2]
      have := List.getElem?_drop (xs := s) (i := pos) (j := 0)
      rw [hd] at this
      simpa using this.symm
    have h2 : S.data[pos]? = some c := by rw [← Array.getElem?_toList]; exact h1
    show S.data[pos + 0]! = c
    rw [Nat.add_zero, getElem!_def, h2]
  have hdec : Utf8.decode S pos = (c.toNat, 1) := by
    unfold Utf8.decode
    simp only [hget]
    rw [if_pos hc']
  obtain ⟨p1, p2⟩ := H.putObj1 (o2 := .strIter s (pos + 1)) (ob := .stringIter S (pos + 1)) hb hs (by simp) hlt (fun w' hw' => ⟨S, hw', q2, rfl⟩)
  have hrun : (Instr.next (.pointer (some ⟨cb, 0, none⟩)) true rt).run P w = .ok (.tuple #[.bool true, goInt pos, .int .i32 c.toNat]) (w.putObj cb (.stringIter S (pos + 1))) := by
    unfold Instr.next
    simp only [Sem.run_bind, g1, Result.andThen_ok]
    rw [if_pos (by omega)]
    simp only [hdec, Sem.run_bind, run_setObj q1 (by simp : ∀ c t f, Obj.stringIter S pos ≠ Obj.cells c t f), Result.andThen_ok]
    rfl
  exact effR_val hrun p1 ⟨_, rfl, _, _, rfl, rfl, _, _, rfl, rfl, _, _, rfl, rfl, rfl⟩ p2

theorem eNext_ok (H : HR N σ h w) (hT : TmR σ tm nt A) (hg : Glob σ) {it : Operand} {st : Bool} {rt : TypeId} {a : Act} (he : eNext it st tm h = a) :
    ActV N h.next σ w a ((do pure (.value (← Instr.next (rho A it) st rt)) : Sem Next).run P w) := by
  subst he
  unfold eNext
  split
  · rename_i v hv
    have h1 := evalQ_ok hT hg hv
    unfold nextSV
    split
    · rename_i b
      simp only [VR] at h1
      obtain ⟨cb, d, n, hs, hd, h1⟩ := h1
      have hd0 : d = 0 := by omega
      subst hd0
      rw [h1]
      split
      · rename_i since seen stepped hb
        obtain ⟨m', q1, q2, _⟩ := H.obj b _ cb _ n hb hs
        simp only [OptN] at q2
        subst q2
        have g1 : (getObj cb).run P w = .ok (.mapIter none since seen.toArray stepped) w := by simp [getObj, Sem.run, q1]
        refine next_over H ?_
        unfold Instr.next
        simp only [Sem.run_bind, g1, Result.andThen_ok]
        rfl
      · rename_i m since seen last hb
        split
        · rename_i es clock hm
          split
          · trivial
          · rename_i hgone
            obtain ⟨m', q1, ⟨mb, md, mn, hms, _⟩, _⟩ := H.obj b _ cb _ n hb hs
            exact nextMap_ok H hb hs hm hms (by simpa using hgone) rfl
        · trivial
      · rename_i s pos hb
        split
        · rename_i hd
          exact nextStrEnd H hb hs hd
        · rename_i c rest hd
          split
          · rename_i hc
            exact nextStrStep H hb hs hd hc
          · trivial
      · trivial
    · trivial
  · trivial
end
end Go.Ex

/- The model's append, once it is known what is appended. Conditions: the tables that the executor asks are the program's. -/
namespace Go.Ex
open Go.RowKit (Below)
section
variable {N : Nat} {σ : Sg} {h : AH} {w : World} {P : Program} {G : Gl} {A : Array Value} {tm : T SV} {nt : Nat}

/-- the type says whether zeros are appended -/
def ZR (G : Gl) (ts : Array TypeId) (z : Bool) : Prop :=
  (z = true ∧ ∃ xt k, ts[1]? = some xt ∧ G.ut xt = some (.int k)) ∨ (z = false ∧ (ts[1]? = none ∨ ∃ xt D, ts[1]? = some xt ∧ G.ut xt = some D ∧ ∀ k, D ≠ .int k))
/-- what is appended: n elements, their cells -/
structure ApR (P : Program) (e size n : Nat) (z : Bool) (x : Value) (w : World) (C : Array Value) : Prop where
  num : z = true → ∃ k, x = .int k (.ofNat n) ∧ n < 1073741824
  len : z = false → (Builtin.lenOf x).run P w = .ok n w
  cells : ∀ w' : World, w'.heap = w.heap → (if (!z) = true then Builtin.firstCells size n x else if n * size = 0 then pure #[] else do pure (Builtin.zeroCells (← zeroValue e).cells n) : Sem (Array Value)).run P w' = .ok C w'

theorem zerosOk_ok {ts : Array TypeId} {x : SV} (hz : zerosOk G ts x = true) : ∃ z, ZR G ts z ∧ (z = true ↔ ∃ k n, x = .int k n) := by
  unfold zerosOk at hz
  split at hz
  · rename_i h1
    split at hz
    · cases hz
    · rename_i hx
      exact ⟨false, .inr ⟨rfl, .inl h1⟩, by simp; intro k n; exact hx k n⟩
  · rename_i xt h1
    split at hz
    · rename_i k hk
      split at hz
      · exact ⟨true, .inl ⟨rfl, xt, k, h1, hk⟩, by simp⟩
      · cases hz
    · rename_i D hne hD
      split at hz
      · cases hz
      · rename_i hx
        exact ⟨false, .inr ⟨rfl, .inr ⟨xt, D, h1, hD, hne⟩⟩, by simp; intro k n; exact hx k n⟩
    · cases hz

theorem wrap_i64 {n : Nat} (h : n < 1073741824) : IntKind.i64.wrap (Int.ofNat n) = (n : Int) := wrap_small .i64 n (show n < 9223372036854775808 by omega)
theorem mul_le_cast {n b : Nat} (h : n * b ≤ 1073741824) : ¬ ((n : Int) * (b : Int) > 2 ^ 48) := by
  intro h1
  have h2 : ((n * b : Nat) : Int) ≤ ((1073741824 : Nat) : Int) := Int.ofNat_le.2 h
  rw [Int.natCast_mul] at h2
  have h3 : ((1073741824 : Nat) : Int) < (2 ^ 48 : Int) := by decide
  omega
theorem run_asInt_int (k : IntKind) (n : Int) : (asInt (.int k n)).run P w = .ok n w := rfl

set_option maxHeartbeats 1000000 in
/-- there is room: in place -/
theorem append_in (K : GlOk P G) {t rt e size n sLen sCap : Nat} {i : TypeInfo} {z : Bool} {ts : Array TypeId} {x : Value} {base : Option Addr} {C : Array Value} {w' : World}
    (ht : ts[0]? = some t) (hu : G.ut t = some (.slice e)) (hi : G.inf e = some i) (hsz : i.size = size) (hz : ZR G ts z) (hA : ApR P e size n z x w C) (hb : n * i.bytes ≤ 1073741824)
    (hle : sLen + n ≤ sCap) (hst : match base with | none => w' = w | some a => (storeCells (a.add (sLen * size)) C.toList).run P w = .ok () w') :
    (Builtin.append_ ts rt #[.slice base sLen sCap, x]).run P w = .ok (.slice base (sLen + n) sCap) w' := by
  have i1 : (#[.slice base sLen sCap, x] : Array Value)[1]? = some x := rfl
  have i0 : (#[.slice base sLen sCap, x] : Array Value)[0]? = some (.slice base sLen sCap) := rfl
  have hsize : (sizeOf e).run P w = .ok size w := by unfold sizeOf; simp [run_typeInfo K hi, hsz]
  have hcells := hA.cells w rfl
  unfold Builtin.append_
  simp only [ht, i0, i1, Sem.run_bind, run_underlying' K hu, Result.andThen_ok, hsize]
  rcases hz with ⟨rfl, xt, k, h1, h2⟩ | ⟨rfl, h1 | ⟨xt, D, h1, h2, h3⟩⟩
  · obtain ⟨k, rfl, hlt⟩ := hA.num rfl
    simp only [h1, Sem.run_bind, run_underlying' K h2, Result.andThen_ok, Sem.run_pure, run_asInt_int, if_true, wrap_i64 hlt]
    rw [if_neg (by omega)]
    simp only [Sem.run_bind, Sem.run_pure, Result.andThen_ok, run_typeInfo K hi, if_neg (mul_le_cast hb), Int.toNat_natCast, if_pos hle, hcells]
    cases base with
    | none => subst hst; rfl
    | some a => simp only [Sem.run_bind, hst, Result.andThen_ok]; rfl
  · simp only [h1, Sem.run_bind, Result.andThen_ok, Sem.run_pure, Bool.false_eq_true, if_false, hA.len rfl, if_pos hle, hcells]
    cases base with
    | none => subst hst; rfl
    | some a => simp only [Sem.run_bind, hst, Result.andThen_ok]; rfl
  · have hD : (match D with | .int _ => true | _ => false) = false := by cases D <;> first | rfl | exact absurd rfl (h3 _)
    simp only [h1, Sem.run_bind, run_underlying' K h2, Result.andThen_ok, Sem.run_pure, Bool.false_eq_true, if_false, hA.len rfl, if_pos hle, hcells]
    cases base with
    | none => subst hst; rfl
    | some a => simp only [Sem.run_bind, hst, Result.andThen_ok]; rfl

theorem next_room {need c b : Nat} (h1 : c < need) (h2 : need ≤ 1073741824) (h3 : need * b ≤ 1073741824) : ¬ (Builtin.nextslicecap need c * b > 2 ^ 48) := by
  have key : Builtin.nextslicecap need c ≤ 2 * need + 192 := by
    unfold Builtin.nextslicecap
    split
    · omega
    · split
      · omega
      · simp only [Builtin.growBy]
        repeat' split
        all_goals omega
  have hb : b ≤ 1073741824 := by
    have : b * 1 ≤ b * need := Nat.mul_le_mul_left _ (by omega)
    rw [Nat.mul_comm b need] at this
    omega
  have h4 : Builtin.nextslicecap need c * b ≤ (2 * need + 192) * b := Nat.mul_le_mul_right _ key
  have h5 : (2 * need + 192) * b = 2 * (need * b) + 192 * b := by rw [Nat.add_mul, Nat.mul_assoc]
  have h6 : (2 : Nat) ^ 48 = 281474976710656 := by decide
  omega

set_option maxHeartbeats 1000000 in
/-- there is none: a new row -/
theorem append_new (K : GlOk P G) {t rt e size n sLen sCap : Nat} {i : TypeInfo} {zv : Value} {z : Bool} {ts : Array TypeId} {x : Value} {base : Option Addr} {C O : Array Value}
    (ht : ts[0]? = some t) (hu : G.ut t = some (.slice e)) (hi : G.inf e = some i) (hsz : i.size = size) (hz : ZR G ts z) (hA : ApR P e size n z x w C) 
    (hb1 : sLen + n ≤ 1073741824) (hb : (sLen + n) * i.bytes ≤ 1073741824) (hle : sCap < sLen + n) (hzv : ∀ w : World, (zeroValue e).run P w = .ok zv w) (hzs : zv.cells.size = size)
    (hO : ∀ w' : World, w'.heap = w.heap → (Builtin.firstCells size sLen (.slice base sLen sCap)).run P w' = .ok O w') :
    ∃ c R w1, w1.heap = w.heap ∧ Below w.heap.size w w1 ∧ sLen + n ≤ c ∧ R.size = (c - (sLen + n)) * size ∧
      (Builtin.append_ ts rt #[.slice base sLen sCap, x]).run P w = .ok (.slice (some ⟨w.heap.size, 0, none⟩) (sLen + n) c) (w1.alloc (.cells (O ++ C ++ R) e)) := by
  have i1 : (#[.slice base sLen sCap, x] : Array Value)[1]? = some x := rfl
  have i0 : (#[.slice base sLen sCap, x] : Array Value)[0]? = some (.slice base sLen sCap) := rfl
  have hsize : (sizeOf e).run P w = .ok size w := by unfold sizeOf; simp [run_typeInfo K hi, hsz]
  obtain ⟨c, w1, hch, hheap, hbel, hc⟩ := run_choose (P := P) (.appendCap (sLen + n) sCap e) w
  have hc' : sLen + n ≤ c := by
    rcases hc with ⟨hc, _⟩ | ⟨t, rfl⟩
    · cases hc
    · exact Nat.le_add_right _ _
  have hcells := hA.cells w1 hheap
  have hold := hO w1 hheap
  have hmax : ¬ (((sLen + n : Nat) : Int) > IntKind.i64.max) := by
    have : IntKind.i64.max = 9223372036854775807 := by decide
    rw [this]
    omega
  have hroom := next_room hle hb1 hb
  have hnb : n * i.bytes ≤ 1073741824 := Nat.le_trans (Nat.mul_le_mul_right _ (Nat.le_add_left _ _)) hb
  have hinfo : ∀ w : World, (typeInfo e).run P w = .ok i w := fun w => run_typeInfo K hi
  have hrow : ∀ w : World, ∀ X : Array Value, (newRow e X).run P w = .ok ⟨w.heap.size, 0, none⟩ (w.alloc (.cells X e)) := fun w X => rfl
  refine ⟨c, Builtin.zeroCells zv.cells (c - (sLen + n)), w1, hheap, hbel, hc', by simp [Builtin.zeroCells, hzs], ?_⟩
  unfold Builtin.append_
  simp only [ht, i0, i1, Sem.run_bind, run_underlying' K hu, Result.andThen_ok, hsize]
  rcases hz with ⟨rfl, xt, k, h1, h2⟩ | ⟨rfl, h1 | ⟨xt, D, h1, h2, h3⟩⟩
  · obtain ⟨k, rfl, hlt⟩ := hA.num rfl
    simp only [h1, Sem.run_bind, run_underlying' K h2, Result.andThen_ok, Sem.run_pure, run_asInt_int, if_true, wrap_i64 hlt]
    rw [if_neg (by omega)]
    simp only [Sem.run_bind, Sem.run_pure, Result.andThen_ok, hinfo, if_neg (mul_le_cast hnb), Int.toNat_natCast, if_neg (Nat.not_le.2 hle), hmax, false_and, if_false, if_neg hroom, hch, run_askRoom, hold, hcells, hzv, hrow, hheap]
  · simp only [h1, Sem.run_bind, Result.andThen_ok, Sem.run_pure, Bool.false_eq_true, if_false, hA.len rfl, if_neg (Nat.not_le.2 hle), hinfo, hmax, false_and, if_neg hroom, hch, run_askRoom, hold, hcells, hzv, hrow, hheap]
  · have hD : (match D with | .int _ => true | _ => false) = false := by cases D <;> first | rfl | exact absurd rfl (h3 _)
    simp only [h1, Sem.run_bind, run_underlying' K h2, Result.andThen_ok, Sem.run_pure, Bool.false_eq_true, if_false, hA.len rfl, if_neg (Nat.not_le.2 hle), hinfo, hmax, false_and, if_neg hroom, hch, run_askRoom, hold, hcells, hzv, hrow, hheap]
end
end Go.Ex

/- What is appended, and where it goes. Conditions: the tables that the executor asks are the program's. -/
namespace Go.Ex
open Go.RowKit (Below)
section
variable {N : Nat} {σ : Sg} {h : AH} {w w' : World} {P : Program} {G : Gl} {A : Array Value} {tm : T SV} {nt : Nat}

theorem run_load0 (a : Addr) : (loadCells a 0).run P w = .ok #[] w := rfl
theorem load_row {cb o m : Nat} {C : Array Value} {e : TypeId} {fz : Nat × Nat} (hC : w.heap[cb]? = some (.cells C e fz)) (hle : o + m ≤ C.size) :
    ∃ A : Array Value, (loadCells ⟨cb, o, none⟩ m).run P w = .ok A w ∧ A.size = m ∧ ∀ j, j < m → A[j]? = C[o + j]? := by
  have hlen : ((C.toList.drop o).take m).length = m := by simp; omega
  have := run_loadCells_list (P := P) (w := w) ⟨cb, o, none⟩ ((C.toList.drop o).take m) (fun j v hj => by
    rw [addr_add, cell_of_row _ _ _ _ _ _ hC]
    have hjm : j < m := by
      have := (List.getElem?_eq_some_iff.1 hj).1
      omega
    rw [List.getElem?_take, if_pos hjm, List.getElem?_drop, Array.getElem?_toList] at hj
    exact hj)
  rw [hlen] at this
  refine ⟨_, this, by simpa using hlen, fun j hj => ?_⟩
  rw [← Array.getElem?_toList]
  simp only
  rw [List.getElem?_take, if_pos hj, List.getElem?_drop, Array.getElem?_toList]

/-- a slice's elements -/
theorem first_ok (H : HR N σ h w) {b off len cap sz m n : Nat} {ex : Bool} {v : Value} {l : List SV} (hx : VR σ (.slice b off len cap sz ex) v) (hl : h.load b off (n * m) = some l) (hn : n ≤ len) :
    ∃ C : Array Value, (∀ w' : World, w'.heap = w.heap → (Builtin.firstCells m n v).run P w' = .ok C w') ∧ VRL σ l C.toList ∧ l.length = n * m := by
  simp only [VR] at hx
  obtain ⟨cb, d, nn, a, c, hs, hd, rfl, h1, h2, h3, h4, h5⟩ := hx
  rcases h4 with rfl | rfl
  · obtain ⟨C, q1, q2, q3, q4⟩ := H.load (P := P) hs hd hl
    refine ⟨C, fun w' hw' => ?_, q2, q4⟩
    obtain ⟨C', r1, r2, r3, r4⟩ := (H.same hw').load (P := P) hs hd hl
    have : C' = C := by
      obtain ⟨k, hk⟩ : ∃ k, h.t.get b = some (.cells k) := by
        unfold AH.load at hl
        split at hl
        · rename_i k hk; exact ⟨k, hk⟩
        · cases hl
      obtain ⟨C0, e0, fz0, b1, b2, b3, _⟩ := H.obj b _ cb d nn hk hs
      have hle : off - d + n * m ≤ C0.size := by
        unfold AH.load at hl
        rw [hk] at hl
        simp only at hl
        split at hl
        · rename_i hle
          have := ble_true.1 hle
          have e : Nat.add off (n * m) = off + n * m := rfl
          omega
        · cases hl
      obtain ⟨X, x1, x2, x3⟩ := load_row (P := P) (w := w) b1 hle
      obtain ⟨Y, y1, y2, y3⟩ := load_row (P := P) (w := w') (by rw [hw']; exact b1) hle
      rw [q1] at x1
      rw [r1] at y1
      cases x1
      cases y1
      refine Array.ext (by rw [x2, y2]) (fun j hj1 hj2 => ?_)
      have e1 := x3 j (by omega)
      have e2 := y3 j (by omega)
      rw [← e1] at e2
      rw [Array.getElem?_eq_getElem hj1, Array.getElem?_eq_getElem hj2] at e2
      exact Option.some.inj e2
    rw [← this]
    exact r1
  · have hn0 : n = 0 := by omega
    subst hn0
    rw [Nat.zero_mul] at hl
    obtain ⟨C, q1, q2, q3, q4⟩ := H.load (P := P) hs hd hl
    have hC : C = #[] := by simpa using q3
    subst hC
    exact ⟨#[], fun w' hw' => by show (loadCells a (0 * m)).run P w' = _; rw [Nat.zero_mul]; rfl, q2, by rw [Nat.zero_mul]; exact q4⟩

theorem appended_ok (_K : GlOk P G) (H : HR N σ h w) {e size n : Nat} {x z0 : SV} {v zv : Value} {z : Bool} {_ts : Array TypeId} {new : List SV}
    (hzv : ∀ w : World, (zeroValue e).run P w = .ok zv w) (hz0 : zeroT G e = some z0) (hzr : VR σ z0 zv) (hzs : z0.cells.length = size) (hx : VR σ x v) (hzx : z = true ↔ ∃ k n, x = .int k n) (ha : appended G e size x h = some (new, n)) :
    ∃ C : Array Value, ApR P e size n z v w C ∧ VRL σ new C.toList ∧ new.length = n * size := by
  unfold appended at ha
  split at ha
  · rename_i b off len cap sz ex
    split at ha
    · rename_i l hl
      cases ha
      have hz : z = false := by cases z with | false => rfl | true => obtain ⟨k, n, q⟩ := hzx.1 rfl; cases q
      subst hz
      obtain ⟨C, q1, q2, q3⟩ := first_ok (P := P) H hx hl (Nat.le_refl _)
      simp only [VR] at hx
      obtain ⟨cb, d, nn, a, c, hs, hd, rfl, _⟩ := hx
      refine ⟨C, ⟨fun h => (by cases h), fun _ => rfl, fun w' hw' => ?_⟩, q2, q3⟩
      exact q1 w' hw'
    · cases ha
  · cases ha
    have hz : z = false := by cases z with | false => rfl | true => obtain ⟨k, n, q⟩ := hzx.1 rfl; cases q
    subst hz
    simp only [VR] at hx
    subst hx
    exact ⟨#[], ⟨fun h => (by cases h), fun _ => rfl, fun w' hw' => rfl⟩, rfl, by simp⟩
  · rename_i s
    split at ha
    · rename_i hsz
      cases ha
      have hsz' : size = 1 := beq_true.1 hsz
      have hz : z = false := by cases z with | false => rfl | true => obtain ⟨k, n, q⟩ := hzx.1 rfl; cases q
      subst hz
      simp only [VR] at hx
      obtain ⟨S, rfl, rfl⟩ := hx
      refine ⟨((S.extract 0 S.data.toList.length).data.map fun b => .int .u8 b.toNat), ⟨fun h => (by cases h), fun _ => rfl, fun w' hw' => rfl⟩, ?_, ?_⟩
      · have : (S.extract 0 S.data.toList.length).data.toList = S.data.toList := by
          have : S.data.toList.length = S.size := rfl
          rw [this, ByteArray.extract_zero_size]
        rw [Array.toList_map, this]
        exact ofBytes_ok _ _
      · rw [ofBytes_length, hsz', Nat.mul_one]
    · cases ha
  · rename_i k l
    split at ha
    · rename_i z1 hlt hz1
      split at ha
      · rename_i hq
        cases ha
        rw [hz0] at hz1
        cases hz1
        have hz : z = true := hzx.2 ⟨_, _, rfl⟩
        subst hz
        simp only [VR] at hx
        subst hx
        have hZ : zv.cells.size = size := by have := hzr.cells.length; simp at this; omega
        by_cases h0 : n * size = 0
        · refine ⟨#[], ⟨fun _ => ⟨k, rfl, blt_true.1 hlt⟩, fun h => (by cases h), fun w' hw' => ?_⟩, ?_, by rw [repl_length, hzs]⟩
          · simp [h0]
          · have : repl z0.cells n = [] := List.length_eq_zero_iff.1 (by rw [repl_length, hzs, h0])
            rw [this]
            rfl
        · refine ⟨Builtin.zeroCells zv.cells n, ⟨fun _ => ⟨k, rfl, blt_true.1 hlt⟩, fun h => (by cases h), fun w' hw' => ?_⟩, zeros_ok hzr.cells n, by rw [repl_length, hzs]⟩
          simp [h0, hzv]
      · cases ha
    · cases ha
  · cases ha

/-! ### a block that is grown -/
theorem fork_spec (_H : HR N σ h w) (g b : Nat) :
    (∀ x o, (h.forkG g b).t.get x = some o → h.t.get x = some o) ∧ (h.forkG g b).next = h.next ∧ (h.forkG g b).t.get b = h.t.get b ∧
    (h.forkG g b).g.get g = some [h.next, b] ∧ (∀ g', g' ≠ g → (h.forkG g b).g.get g' = h.g.get g') ∧
    (∀ l x o, h.g.get g = some l → x ∈ l → (h.forkG g b).t.get x = some o → x = b) := by
  unfold AH.forkG
  split
  · rename_i hg
    exact ⟨fun x o e => e, rfl, rfl, T.get_set_self _ _ _, fun g' hg' => by show (h.g.set g _).get g' = _; rw [T.get_set, if_neg hg'], fun l x o hl => by rw [hg] at hl; cases hl⟩
  · rename_i l hg
    obtain ⟨a1, a2, a3, a4, a5⟩ := dropL_spec b l h
    refine ⟨a1, a2, a4, T.get_set_self _ _ _, fun g' hg' => ?_, fun l' x o hl hx hxo => ?_⟩
    · show ((AH.dropL b l h).g.set g _).get g' = _
      rw [T.get_set, if_neg hg', a3]
    · rw [hg] at hl
      cases hl
      by_cases e : x = b
      · exact e
      · have : (AH.dropL b l h).t.get x = some o := hxo
        rw [a5 x hx e] at this
        cases this
theorem HR.fork (H : HR N σ h w) (g b : Nat) : HR N σ (h.forkG g b) w := by
  obtain ⟨a1, a2, a3, a4, a5, a6⟩ := fork_spec H g b
  refine ⟨fun x o cb d n a s => H.obj x o cb d n (a1 _ _ a) s, fun x hx => H.fresh x (a2 ▸ hx), ?_, H.low, ⟨a2 ▸ H.big.1, H.big.2⟩, fun x o a => H.nc x o (a1 _ _ a)⟩
  intro x x' o o' cb d n d' n' a a' s s' ne
  obtain ⟨k, k', l, e1, e2, e3, e4, e5, e6, e7⟩ := H.sep x x' o o' cb d n d' n' (a1 _ _ a) (a1 _ _ a') s s' ne
  by_cases hg : k.grp = g
  · rw [hg] at e4
    exact absurd ((a6 l x o e4 e5 a).trans (a6 l x' o' e4 e6 a').symm) ne
  · exact ⟨k, k', l, e1, e2, e3, by rw [a5 _ hg]; exact e4, e5, e6, e7⟩
/-- behind it: whoever shared the block is gone -/
theorem fork_alone (H : HR N σ h w) {b cb d n : Nat} {k : Blk} (hb : h.t.get b = some (.cells k)) (hs : σ b = some (cb, d, n)) :
    ∀ x o d' m, (h.forkG k.grp b).t.get x = some o → σ x = some (cb, d', m) → x = b := by
  obtain ⟨a1, a2, a3, a4, a5, a6⟩ := fork_spec H k.grp b
  intro x o d' m a s
  by_cases e : x = b
  · exact e
  · obtain ⟨k1, k2, l, e1, e2, e3, e4, e5, e6, e7⟩ := H.sep b x _ _ cb d n d' m hb (a1 _ _ a) hs s (Ne.symm e)
    cases e1
    exact a6 l x o e4 e6 a
/-- the new block is the old one, written from lo on -/
theorem HR.share (H : HR N σ h w) {b cb d n lo : Nat} {k k2 : Blk} {C C' : Array Value} {e : TypeId} {fz : Nat × Nat} (hb : h.t.get b = some (.cells k)) (hs : σ b = some (cb, d, n))
    (hbase : base ≤ b) (hg : h.g.get k.grp = some [h.next, b]) (alone : ∀ x o d' m, h.t.get x = some o → σ x = some (cb, d', m) → x = b)
    (hC : w.heap[cb]? = some (.cells C e fz)) (hC' : w'.heap[cb]? = some (.cells C' e fz)) (hsize : C'.size = C.size) (hlow : ∀ i, i < lo - d → C'[i]? = C[i]?) (hklo : k.n ≤ lo)
    (other : ∀ c, c ≠ cb → w'.heap[c]? = w.heap[c]?) (hsz : w.heap.size ≤ w'.heap.size) (hgrp : k2.grp = k.grp) (ho : CellsR (σ.put h.next (cb, d, n)) k2 cb d n w') :
    HR N (σ.put h.next (cb, d, n)) (h.new (.cells k2)) w' := by
  have hf : σ h.next = none := H.fresh _ (Nat.le_refl _)
  have hle : σ.le (σ.put h.next (cb, d, n)) := Sg.le_put _ hf
  have hbn : b ≠ h.next := by rintro rfl; rw [hf] at hs; cases hs
  have get' : ∀ c o, (h.new (.cells k2)).t.get c = some o → c ≠ h.next → h.t.get c = some o := by
    intro c o a ne
    rw [AH.new_t, if_neg ne] at a
    exact a
  refine ⟨fun c o cb' d' m a s => ?_, fun c hc => ?_, fun c c' o o' cb' d1 m1 d2 m2 a a' s s' ne => ?_, fun c cb' d' m s hc => ?_, ⟨Nat.le_succ_of_le H.big.1, Nat.le_trans H.big.2 hsz⟩, fun c o a hc => ?_⟩
  · by_cases e1 : c = h.next
    · subst e1
      rw [Sg.put_self] at s
      cases s
      rw [AH.new_t, if_pos rfl] at a
      cases a
      exact ho
    · rw [Sg.put_other _ _ e1] at s
      have a' := get' c o a e1
      by_cases e2 : cb' = cb
      · subst e2
        have := alone c o d' m a' s
        subst this
        rw [hb] at a'
        cases a'
        rw [hs] at s
        cases s
        obtain ⟨C1, t1, f1, q1, q2, q3, q4, q5⟩ := H.obj c _ _ _ _ hb hs
        rw [hC] at q1
        cases q1
        refine CellsR.mono hle ⟨C', e, fz, hC', by rw [hsize]; exact q2, q3, q4, fun j v hj hv => ?_⟩
        obtain ⟨r2, v', r3, r4⟩ := q5 j v hj hv
        exact ⟨r2, v', by rw [hlow _ (by omega)]; exact r3, r4⟩
      · exact ((H.obj c o cb' d' m a' s).world (other _ e2)).mono hle
  · have hc' : h.next + 1 ≤ c := hc
    rw [Sg.put_other _ _ (by omega)]
    exact H.fresh c (by omega)
  · by_cases e1 : c = h.next
    · subst e1
      rw [Sg.put_self] at s
      cases s
      rw [AH.new_t, if_pos rfl] at a
      cases a
      rw [Sg.put_other _ _ (Ne.symm ne)] at s'
      have a'' := get' c' o' a' (Ne.symm ne)
      have := alone c' o' d2 m2 a'' s'
      subst this
      rw [hb] at a''
      cases a''
      rw [hs] at s'
      cases s'
      exact ⟨k2, k, [h.next, c'], rfl, rfl, hgrp, by rw [hgrp]; exact hg, by simp, by simp, rfl⟩
    · rw [Sg.put_other _ _ e1] at s
      have a1 := get' c o a e1
      by_cases e2 : c' = h.next
      · subst e2
        rw [Sg.put_self] at s'
        cases s'
        rw [AH.new_t, if_pos rfl] at a'
        cases a'
        have := alone c o d1 m1 a1 s
        subst this
        rw [hb] at a1
        cases a1
        rw [hs] at s
        cases s
        exact ⟨k, k2, [h.next, c], rfl, rfl, hgrp.symm, hg, by simp, by simp, rfl⟩
      · rw [Sg.put_other _ _ e2] at s'
        exact H.sep c c' o o' cb' d1 m1 d2 m2 a1 (get' c' o' a' e2) s s' ne
  · by_cases e1 : c = h.next
    · subst e1
      rw [Sg.put_self] at s
      cases s
      exact H.low _ _ _ _ hs hbase
    · rw [Sg.put_other _ _ e1] at s
      exact H.low c cb' d' m s hc
  · by_cases e1 : c = h.next
    · subst e1
      exact absurd H.big.1 (by omega)
    · exact H.nc c o (get' c o a e1) hc
end
end Go.Ex
