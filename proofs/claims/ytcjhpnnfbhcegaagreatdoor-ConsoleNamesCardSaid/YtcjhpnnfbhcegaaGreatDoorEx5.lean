/- Append, functions without a body, calls. Conditions: the tables are the program's. -/
import Derived.Test.YtcjhpnnfbhcegaaGreatDoorEx4
/- Appends. Conditions: the tables that the executor asks are the program's. -/
namespace Go.Ex
open Go.RowKit (Below)
section
variable {N : Nat} {σ : Sg} {h : AH} {w w' : World} {P : Program} {G : Gl} {A : Array Value} {tm : T SV} {nt : Nat}

def EffS (N nx : Nat) (σ : Sg) (w : World) (v : SV) (h' : AH) (r : Result Value) : Prop :=
  ∃ τ y w', r = .ok y w' ∧ Sg.up nx σ τ ∧ HR N τ h' w' ∧ VR τ v y ∧ Below N w w'
theorem EffS.next {s : Sem Value} {v : SV} {h' : AH} (e : EffS N h.next σ w v h' (s.run P w)) : EffR N h.next σ w v h' ((do pure (.value (← s)) : Sem Next).run P w) := by
  obtain ⟨τ, y, w', h1, h2, h3, h4, h5⟩ := e
  exact ⟨τ, _, y, w', run_v h1, rfl, h2, h3, h4, h5⟩

/-- what all the ways of appending know -/
structure ApK (P : Program) (G : Gl) (N : Nat) (σ : Sg) (h : AH) (w : World) (ts : Array TypeId) (t e size n : Nat) (x : Value) (new : List SV) : Prop where
  K : GlOk P G
  H : HR N σ h w
  ex : ∃ (i : TypeInfo) (zv : Value) (z : Bool) (C : Array Value), ts[0]? = some t ∧ G.ut t = some (.slice e) ∧ G.inf e = some i ∧ i.size = size ∧ ZR G ts z ∧ ApR P e size n z x w C ∧
    (∀ w : World, (zeroValue e).run P w = .ok zv w) ∧ zv.cells.size = size ∧ VRL σ new C.toList ∧ new.length = n * size

theorem roomOk_ok {e need : Nat} {i : TypeInfo} (hi : G.inf e = some i) (h : roomOk G e need = true) : need ≤ 1073741824 ∧ need * i.bytes ≤ 1073741824 := by
  unfold roomOk at h
  rw [hi] at h
  simp only at h
  split at h
  · rename_i h1
    exact ⟨ble_true.1 h1, ble_true.1 h⟩
  · cases h

theorem apNils_ok {ts : Array TypeId} {t e size n rt : Nat} {x : Value} {new : List SV} (Q : ApK P G N σ h w ts t e size n x new) (hr : roomOk G e n = true) (hn : 0 < n) :
    EffS N h.next σ w (.slice h.next 0 n n size false) (h.newCells e new) ((Builtin.append_ ts rt #[.slice none 0 0, x]).run P w) := by
  obtain ⟨K, H, i, zv, z, C, ht, hu, hi, hsz, hz, hA, hzv, hzs, hnew, hlen⟩ := Q
  obtain ⟨r1, r2⟩ := roomOk_ok hi hr
  obtain ⟨c, R, w1, hheap, hbel, hc, hR, hrun⟩ := append_new (O := #[]) (rt := rt) (sLen := 0) (sCap := 0) (base := none) K ht hu hi hsz hz hA (by omega) (by rw [Nat.zero_add]; exact r2) (by omega) hzv hzs (fun w' _ => rfl)
  have hC : C.size = n * size := by have := hnew.length; simp at this; omega
  have hsize : (#[] ++ C ++ R : Array Value).size = c * size := by
    simp [hC, hR]
    rw [Nat.sub_mul]
    have : n * size ≤ c * size := Nat.mul_le_mul_right _ (by omega)
    omega
  have hf : σ h.next = none := H.fresh _ (Nat.le_refl _)
  have hle : σ.le (σ.put h.next (w.heap.size, 0, (#[] ++ C ++ R : Array Value).size)) := Sg.le_put _ hf
  refine ⟨_, _, _, hrun, ⟨hle, (Sg.up_put _ hf (Nat.le_refl _)).2⟩, ?_, ?_, (hbel.mono H.big.2).trans (below_alloc _ (by rw [hheap]; exact H.big.2))⟩
  · have hh : (w1.alloc (.cells (#[] ++ C ++ R) e)).heap[w.heap.size]? = some (.cells ((#[] ++ C) ++ R) e (0, 0)) := by
      show (w1.heap.push _)[w.heap.size]? = _
      rw [hheap]
      simp
    have hcr := cellsR_new (σ := σ.put h.next (w.heap.size, 0, (#[] ++ C ++ R : Array Value).size)) (elem := e) (g := h.next) hh (.inl rfl) (l := new) (by
      have := VRL.mono hle _ _ hnew
      simpa using this)
    have := HR.new (w' := w1.alloc (.cells (#[] ++ C ++ R) e)) H (o := .cells ⟨fillT .e 0 new, new.length, e, h.next⟩) (n := (#[] ++ C ++ R : Array Value).size) (ob := .cells (#[] ++ C ++ R) e)
      (by show w1.heap.push _ = _; rw [hheap]) hcr
    exact this
  · rw [Nat.zero_add]
    exact slice_new σ h.next _ n n c size false w (Nat.le_refl _) (by omega) (fun h => by cases h) (by rw [hsize]; exact Nat.le_refl _)

theorem apIn_ok {ts : Array TypeId} {t e size n rt b off len cap : Nat} {ex : Bool} {x s : Value} {new : List SV} {v : SV} {h' : AH} (Q : ApK P G N σ h w ts t e size n x new) (hr : roomOk G e (len + n) = true) (hn : 0 < n)
    (hs' : VR σ (.slice b off len cap size ex) s) (hcap : len + n ≤ cap) (ha : apIn h b off len cap size ex (len + n) new = some (v, h')) :
    EffS N h.next σ w v h' ((Builtin.append_ ts rt #[s, x]).run P w) := by
  obtain ⟨K, H, i, zv, z, C, ht, hu, hi, hsz, hz, hA, hzv, hzs, hnew, hlen⟩ := Q
  obtain ⟨r1, r2⟩ := roomOk_ok hi hr
  unfold apIn at ha
  split at ha
  · rename_i k hb
    split at ha
    · rename_i hbase hoff
      split at ha
      · rename_i dd hst
        cases ha
        simp only [VR] at hs'
        obtain ⟨cb, d, nn, a, c, hs, hd, rfl, h1, h2, h3, h4, h5⟩ := hs'
        have hc0 : c ≠ 0 := by omega
        have ha : a = ⟨cb, off - d, none⟩ := h4.resolve_right hc0
        subst ha
        have eoff : Nat.add off (Nat.mul len size) = off + len * size := rfl
        have eend : Nat.add off (Nat.mul (len + n) size) = off + len * size + n * size := by
          show off + (len + n) * size = _
          rw [Nat.add_mul]
          omega
        rw [eoff] at hst hoff
        have hoff' : off + len * size ≤ k.n := ble_true.1 hoff
        have hcs : (len + n) * size ≤ c * size := Nat.mul_le_mul_right _ (by omega)
        rw [Nat.add_mul] at hcs
        obtain ⟨w', q1, q2, q3⟩ := H.write (P := P) (off := off + len * size) (end_ := match Nat.ble k.n (off + len * size + n * size) with | true => off + len * size + n * size | false => k.n)
          hs hb (by omega) (ble_true.1 hbase) hst hnew hoff' (by omega) (by
            rw [hlen]
            cases hq : Nat.ble k.n (off + len * size + n * size) with
            | true => exact .inr ⟨rfl, ble_true.1 hq⟩
            | false => exact .inl ⟨rfl, by have := ble_false.1 hq; omega⟩)
        have hrun := append_in (rt := rt) (w' := w') (base := some ⟨cb, off - d, none⟩) (sLen := len) (sCap := c) K ht hu hi hsz hz hA (Nat.le_trans (Nat.mul_le_mul_right _ (Nat.le_add_left n len)) r2) (by omega)
          (by show (storeCells (Addr.add ⟨cb, off - d, none⟩ (len * size)) C.toList).run P w = _; rw [addr_add, show off - d + len * size = off + len * size - d from by omega]; exact q1)
        refine ⟨σ, _, w', hrun, (Sg.up_refl _ σ), ?_, ?_, q3⟩
        · rw [eoff, eend]
          exact q2
        · exact ⟨cb, d, nn, _, c, hs, hd, rfl, hcap, h2, h3, .inl rfl, h5⟩
      · cases ha
    · cases ha
  · cases ha

theorem apEx_ok {ts : Array TypeId} {t e size n rt b off len cap : Nat} {x s : Value} {new : List SV} {v : SV} {h' : AH} (Q : ApK P G N σ h w ts t e size n x new) (hr : roomOk G e (len + n) = true)
    (hs' : VR σ (.slice b off len cap size true) s) (hcap : cap < len + n) (ha : apEx e h b off len size (len + n) new = some (v, h')) :
    EffS N h.next σ w v h' ((Builtin.append_ ts rt #[s, x]).run P w) := by
  obtain ⟨K, H, i, zv, z, C, ht, hu, hi, hsz, hz, hA, hzv, hzs, hnew, hlen⟩ := Q
  obtain ⟨r1, r2⟩ := roomOk_ok hi hr
  unfold apEx at ha
  split at ha
  · rename_i old hold
    cases ha
    obtain ⟨O, o1, o2, o3⟩ := first_ok (P := P) H hs' hold (Nat.le_refl _)
    simp only [VR] at hs'
    obtain ⟨cb, d, nn, a, c0, hs, hd, rfl, h1, h2, h3, h4, h5⟩ := hs'
    have hc0 : c0 = cap := h3 trivial
    subst hc0
    obtain ⟨c, R, w1, hheap, hbel, hc, hR, hrun⟩ := append_new (O := O) (rt := rt) (sLen := len) (sCap := c0) (base := some a) K ht hu hi hsz hz hA r1 r2 hcap hzv hzs o1
    have hC : C.size = n * size := by have := hnew.length; simp at this; omega
    have hOs : O.size = len * size := by have := o2.length; simp at this; omega
    have hsize : (O ++ C ++ R : Array Value).size = c * size := by
      simp [hC, hR, hOs]
      rw [Nat.sub_mul, Nat.add_mul]
      have : (len + n) * size ≤ c * size := Nat.mul_le_mul_right _ (by omega)
      rw [Nat.add_mul] at this
      omega
    have hf : σ h.next = none := H.fresh _ (Nat.le_refl _)
    have hle : σ.le (σ.put h.next (w.heap.size, 0, (O ++ C ++ R : Array Value).size)) := Sg.le_put _ hf
    refine ⟨_, _, _, hrun, ⟨hle, (Sg.up_put _ hf (Nat.le_refl _)).2⟩, ?_, ?_, (hbel.mono H.big.2).trans (below_alloc _ (by rw [hheap]; exact H.big.2))⟩
    · have hh : (w1.alloc (.cells (O ++ C ++ R) e)).heap[w.heap.size]? = some (.cells ((O ++ C) ++ R) e (0, 0)) := by
        show (w1.heap.push _)[w.heap.size]? = _
        rw [hheap]
        simp
      have hcr := cellsR_new (σ := σ.put h.next (w.heap.size, 0, (O ++ C ++ R : Array Value).size)) (elem := e) (g := h.next) hh (.inl rfl) (l := old ++ new)
        (by rw [Array.toList_append]; exact (VRL.mono hle _ _ o2).append (VRL.mono hle _ _ hnew))
      exact HR.new (w' := w1.alloc (.cells (O ++ C ++ R) e)) H (o := .cells ⟨fillT .e 0 (old ++ new), (old ++ new).length, e, h.next⟩) (n := (O ++ C ++ R : Array Value).size) (ob := .cells (O ++ C ++ R) e)
        (by show w1.heap.push _ = _; rw [hheap]) hcr
    · exact slice_new σ h.next _ (len + n) (len + n) c size false w (Nat.le_refl _) (by omega) (fun h => by cases h) (by rw [hsize]; exact Nat.le_refl _)
  · cases ha

theorem apTbl_ok {k : Blk} {b off m : Nat} {t : T SV} (hb : h.t.get b = some (.cells k)) (e : apTbl h k b off m = some t) : ∀ j v, t.get j = some v → off ≤ j ∧ k.d.get j = some v := by
  unfold apTbl at e
  split at e
  · cases e
    exact fun j v hv => ⟨Nat.zero_le _, hv⟩
  · rename_i o
    split at e
    · rename_i old hold
      cases e
      intro j v hv
      unfold AH.load at hold
      rw [hb] at hold
      simp only at hold
      split at hold
      · obtain ⟨h1, h2⟩ := cellsOf_spec _ _ _ _ hold
        rw [fillT_get] at hv
        split at hv
        · rename_i hr
          have := h2 _ _ hv
          rw [show o.succ + (j - o.succ) = j from by omega] at this
          exact ⟨hr.1, this⟩
        · rw [T.get_e] at hv; cases hv
      · cases hold
    · cases e

theorem apUn_ok {ts : Array TypeId} {t e size n rt b off len cap : Nat} {x s : Value} {new : List SV} {v : SV} {h' : AH} (Q : ApK P G N σ h w ts t e size n x new) (hr : roomOk G e (len + n) = true)
    (hs' : VR σ (.slice b off len cap size false) s) (hcap : cap < len + n) (ha : apUn e h b off len size (len + n) new = some (v, h')) :
    EffS N h.next σ w v h' ((Builtin.append_ ts rt #[s, x]).run P w) := by
  obtain ⟨K, H, i, zv, z, C, ht, hu, hi, hsz, hz, hA, hzv, hzs, hnew, hlen⟩ := Q
  obtain ⟨r1, r2⟩ := roomOk_ok hi hr
  unfold apUn at ha
  split at ha
  · rename_i k hb
    split at ha
    · rename_i hbase hoff
      split at ha
      · rename_i tt htt
        split at ha
        · rename_i dd hst
          cases ha
          simp only [VR] at hs'
          obtain ⟨cb, d, nn, a, c, hs, hd, rfl, h1, h2, h3, h4, h5⟩ := hs'
          have eoff : Nat.add off (Nat.mul len size) = off + len * size := rfl
          have eend : Nat.add off (Nat.mul (len + n) size) = off + len * size + n * size := by
            show off + (len + n) * size = _
            rw [Nat.add_mul]
            omega
          rw [eoff] at hst hoff
          rw [eend]
          have hoff' : off + len * size = k.n := beq_true.1 hoff
          have htbl := apTbl_ok hb htt
          obtain ⟨hone, hget⟩ := storeT_spec _ _ _ _ hst
          have hb' := ble_true.1 hbase
          obtain ⟨C0, e0, fz, a1, a2, a3, a4, a5⟩ := H.obj b _ cb d nn hb hs
          have hf : σ h.next = none := H.fresh _ (Nat.le_refl _)
          obtain ⟨f1, f2, f3, f4, f5, f6⟩ := fork_spec H k.grp b
          have HF := H.fork k.grp b
          have hC : C.size = n * size := by have := hnew.length; simp at this; omega
          by_cases hroom : len + n ≤ c
          · -- there is room
            have hc0 : c ≠ 0 := by omega
            have ha : a = ⟨cb, off - d, none⟩ := h4.resolve_right hc0
            subst ha
            have hcs : (len + n) * size ≤ c * size := Nat.mul_le_mul_right _ hroom
            rw [Nat.add_mul] at hcs
            have hlt : cb < w.heap.size := (Array.getElem?_eq_some_iff.1 a1).1
            have hst1 := run_storeCells (P := P) (o := off + len * size - d) C.toList 0 w C0 a1 (hnew.ones hone) (by simp; omega) (by rw [a2]; exact a4.get)
            have hrun := append_in (rt := rt) (base := some ⟨cb, off - d, none⟩) (sLen := len) (sCap := c) K ht hu hi hsz hz hA (Nat.le_trans (Nat.mul_le_mul_right _ (Nat.le_add_left n len)) r2) hroom
              (by show (storeCells (Addr.add ⟨cb, off - d, none⟩ (len * size)) C.toList).run P w = _; rw [addr_add, show off - d + len * size = off + len * size - d from by omega]; exact hst1)
            generalize hC1 : setL C0 (off + len * size - d + 0) C.toList = C1 at hrun
            have hC1s : C1.size = C0.size := by rw [← hC1, setL_size]
            have hh : (w.putObj cb (.cells C1 e0 fz)).heap[cb]? = some (.cells C1 e0 fz) := by rw [putObj_get hlt, if_pos rfl]
            have hle : σ.le (σ.put h.next (cb, d, nn)) := Sg.le_put _ hf
            have hgetC : ∀ i, C1[i]? = if off + len * size - d ≤ i ∧ i < off + len * size - d + n * size then C[i - (off + len * size - d)]? else C0[i]? := by
              intro i
              rw [← hC1, setL_get _ _ _ _ (by simp; omega)]
              simp [hC]
            refine ⟨_, _, _, hrun, ⟨hle, (Sg.up_put _ hf (Nat.le_refl _)).2⟩, ?_, ?_, below_putObj _ (H.low _ _ _ _ hs hb')⟩
            · have := HR.share (w' := w.putObj cb (.cells C1 e0 fz)) (lo := off + len * size) (k2 := ⟨dd, off + len * size + n * size, e, k.grp⟩) (cb := cb) (d := d) (n := nn) (C := C0) (C' := C1) (e := e0) (fz := fz) HF (f3.trans hb) hs hb'
                (by rw [f2]; exact f4) (fork_alone H hb hs) a1 hh hC1s (fun i hi => by rw [hgetC, if_neg (by omega)]) (by omega)
                (fun c hc => by rw [putObj_get hlt, if_neg hc]) (by simp) rfl (by
                  rw [f2]
                  refine ⟨C1, e0, fz, hh, by omega, by simp only; omega, a4, fun j v hj hv => ?_⟩
                  simp only at hj hv
                  rw [hget] at hv
                  rw [hgetC]
                  split at hv
                  · rename_i hr
                    rw [hlen] at hr
                    obtain ⟨v', c1, c2⟩ := hnew.get hv
                    refine ⟨by omega, v', ?_, VR.mono hle _ _ c2⟩
                    rw [if_pos (by omega), show j - d - (off + len * size - d) = j - (off + len * size) from by omega, ← Array.getElem?_toList]
                    exact c1
                  · rename_i hr
                    obtain ⟨hj1, hj2⟩ := htbl _ _ hv
                    rw [hlen] at hr
                    obtain ⟨c1, v', c2, c3⟩ := a5 j v (by omega) hj2
                    refine ⟨c1, v', ?_, VR.mono hle _ _ c3⟩
                    rw [if_neg (by omega)]
                    exact c2)
              rw [f2] at this
              exact this
            · exact ⟨cb, d, nn, _, c, Sg.put_self _ _ _, hd, rfl, Nat.le_refl _, hroom, fun h => (by cases h), .inl rfl, h5⟩
          · -- there is none
            obtain ⟨O, o1, o2, o3⟩ : ∃ O : Array Value, (∀ w' : World, w'.heap = w.heap → (Builtin.firstCells size len (.slice (some a) len c)).run P w' = .ok O w') ∧ O.size = len * size ∧
                ∀ j, j < len * size → O[j]? = C0[off - d + j]? := by
              have hls : len * size ≤ c * size := Nat.mul_le_mul_right _ (by omega)
              rcases h4 with rfl | rfl
              · obtain ⟨O, o1, o2, o3⟩ := load_row (P := P) (w := w) (o := off - d) (m := len * size) a1 (by omega)
                refine ⟨O, fun w' hw' => ?_, o2, o3⟩
                obtain ⟨O', p1, p2, p3⟩ := load_row (P := P) (w := w') (o := off - d) (m := len * size) (by rw [hw']; exact a1) (by omega)
                have : O' = O := by
                  refine Array.ext (by rw [o2, p2]) (fun j hj1 hj2 => ?_)
                  have e1 := o3 j (by omega)
                  have e2 := p3 j (by omega)
                  rw [← e1] at e2
                  rw [Array.getElem?_eq_getElem hj1, Array.getElem?_eq_getElem hj2] at e2
                  exact Option.some.inj e2
                rw [← this]
                exact p1
              · have hl0 : len = 0 := by omega
                subst hl0
                exact ⟨#[], fun w' hw' => by show (loadCells a (0 * size)).run P w' = _; rw [Nat.zero_mul]; rfl, by simp, fun j hj => by omega⟩
            obtain ⟨c1, R, w1, hheap, hbel, hc, hR, hrun⟩ := append_new (O := O) (rt := rt) (sLen := len) (sCap := c) (base := some a) K ht hu hi hsz hz hA r1 r2 (by omega) hzv hzs o1
            have hsize : (O ++ C ++ R : Array Value).size = c1 * size := by
              simp [hC, hR, o2]
              rw [Nat.sub_mul, Nat.add_mul]
              have : (len + n) * size ≤ c1 * size := Nat.mul_le_mul_right _ (by omega)
              rw [Nat.add_mul] at this
              omega
            have hc1s : (len + n) * size ≤ c1 * size := Nat.mul_le_mul_right _ hc
            rw [Nat.add_mul] at hc1s
            have hle : σ.le (σ.put h.next (w.heap.size, off, (O ++ C ++ R : Array Value).size)) := Sg.le_put _ hf
            refine ⟨_, _, _, hrun, ⟨hle, (Sg.up_put _ hf (Nat.le_refl _)).2⟩, ?_, ?_, (hbel.mono H.big.2).trans (below_alloc _ (by rw [hheap]; exact H.big.2))⟩
            · have := HF.newD (w' := w1.alloc (.cells (O ++ C ++ R) e)) (d0 := off) (o := .cells ⟨dd, off + len * size + n * size, e, k.grp⟩) (n := (O ++ C ++ R : Array Value).size) (ob := .cells (O ++ C ++ R) e)
                (by show w1.heap.push _ = _; rw [hheap]) (by
                  rw [f2]
                  have hh : (w1.alloc (.cells (O ++ C ++ R) e)).heap[w.heap.size]? = some (.cells (O ++ C ++ R) e (0, 0)) := by
                    show (w1.heap.push _)[w.heap.size]? = _
                    rw [hheap]
                    simp
                  refine ⟨O ++ C ++ R, e, (0, 0), hh, rfl, by simp only; omega, .inl rfl, fun j v hj hv => ?_⟩
                  simp only at hj hv
                  rw [hget] at hv
                  split at hv
                  · rename_i hr
                    rw [hlen] at hr
                    obtain ⟨v', c1, c2⟩ := hnew.get hv
                    refine ⟨by omega, v', ?_, VR.mono hle _ _ c2⟩
                    rw [Array.getElem?_append_left (by simp; omega), Array.getElem?_append_right (by omega), o2, show j - off - len * size = j - (off + len * size) from by omega, ← Array.getElem?_toList]
                    exact c1
                  · rename_i hr
                    obtain ⟨hj1, hj2⟩ := htbl _ _ hv
                    rw [hlen] at hr
                    obtain ⟨c1, v', c2, c3⟩ := a5 j v (by omega) hj2
                    refine ⟨hj1, v', ?_, VR.mono hle _ _ c3⟩
                    rw [Array.getElem?_append_left (by simp; omega), Array.getElem?_append_left (by omega), o3 _ (by omega), show off - d + (j - off) = j - d from by omega]
                    exact c2)
              rw [f2] at this
              exact this
            · exact ⟨w.heap.size, off, _, ⟨w.heap.size, 0, none⟩, c1, Sg.put_self _ _ _, Nat.le_refl _, rfl, Nat.le_refl _, hc, fun h => (by cases h), .inl (by rw [Nat.sub_self]), by rw [hsize]; omega⟩
        · cases ha
      · cases ha
    · cases ha
  · cases ha

theorem appendSV_ok (K : GlOk P G) (H : HR N σ h w) {ts : Array TypeId} {t rt : TypeId} {s x v : SV} {sv xv : Value} {h' : AH} (ht : ts[0]? = some t) (hs : VR σ s sv) (hx : VR σ x xv) (e : appendSV G ts t s x h = some (v, h')) :
    EffS N h.next σ w v h' ((Builtin.append_ ts rt #[sv, xv]).run P w) := by
  unfold appendSV at e
  split at e
  · rename_i el hu
    split at e
    · rename_i size z0 hsz hz0
      split at e
      · rename_i hzl hzo
        split at e
        · cases e
        · rename_i new n hap
          obtain ⟨i, hi, hisz⟩ := inf_of_size hsz
          obtain ⟨zv, hzv, hzr⟩ := zero_val (P := P) K hz0
          have hzl' := beq_true.1 hzl
          have hzs : zv.cells.size = size := by have := (hzr σ).cells.length; simp at this; omega
          obtain ⟨z, hz, hzx⟩ := zerosOk_ok hzo
          obtain ⟨C, hA, hnew, hlen⟩ := appended_ok K H hzv hz0 (hzr σ) hzl' hx hzx (_ts := ts) hap
          have Q : ApK P G N σ h w ts t el size n xv new := ⟨K, H, i, zv, z, C, ht, hu, hi, hisz, hz, hA, hzv, hzs, hnew, hlen⟩
          unfold apTo at e
          split at e
          · simp only [VR] at hs
            subst hs
            split at e
            · cases e
              have hrun := append_in (rt := rt) (w' := w) (base := none) (sLen := 0) (sCap := 0) K ht hu hi hisz hz hA (by omega) (by omega) rfl
              exact ⟨σ, _, w, hrun, (Sg.up_refl _ σ), H, by simp only [VR], Below.refl _ _⟩
            · rename_i m
              split at e
              · rename_i hr
                cases e
                exact apNils_ok Q hr (by omega)
              · cases e
          · rename_i b off len cap sz ex
            split at e
            · rename_i hq hr
              have hq' := beq_true.1 hq
              subst hq'
              unfold apSl at e
              split at e
              · rename_i hcap
                have hcap' : len + n ≤ cap := ble_true.1 hcap
                split at e
                · cases e
                  simp only [VR] at hs
                  obtain ⟨cb, d, nn, a, c, q1, q2, rfl, q3, q4, q5, q6, q7⟩ := hs
                  have hC : C = #[] := by
                    have h1 : C.toList.length = 0 := by rw [hnew.length, hlen, Nat.zero_mul]
                    simpa using h1
                  subst hC
                  have hrun := append_in (rt := rt) (w' := w) (base := some a) (sLen := len) (sCap := c) K ht hu hi hisz hz hA (by omega) (by omega) rfl
                  exact ⟨σ, _, w, hrun, (Sg.up_refl _ σ), H, ⟨cb, d, nn, a, c, q1, q2, rfl, q3, q4, q5, q6, q7⟩, Below.refl _ _⟩
                · exact apIn_ok Q hr (by omega) hs hcap' e
              · rename_i hcap
                have hcap' : cap < len + n := ble_false.1 hcap
                split at e
                · exact apEx_ok Q hr hs hcap' e
                · exact apUn_ok Q hr hs hcap' e
            · cases e
          · cases e
      · cases e
    · cases e
  · cases e
end
end Go.Ex

/- Copies, and functions without a body. Conditions: the tables that the executor asks are the program's. -/
namespace Go.Ex
open Go.RowKit (Below)
section
variable {N : Nat} {σ : Sg} {h : AH} {w w' : World} {P : Program} {G : Gl} {A : Array Value} {tm : T SV} {nt : Nat}

theorem EffS.same {s : Sem Value} {v : SV} {y : Value} (H : HR N σ h w) (e : s.run P w = .ok y w) (hv : VR σ v y) : EffS N h.next σ w v h (s.run P w) :=
  ⟨σ, y, w, e, (Sg.up_refl _ σ), H, hv, Below.refl _ _⟩

/-! ### copies -/
theorem run_lenOf {y : SV} {v : Value} {n : Nat} (hy : VR σ y v) (e : lenOf y = some n) : (Builtin.lenOf v).run P w = .ok n w := by
  cases y <;> simp only [lenOf] at e <;> first | (cases e; done) | skip
  · cases e; simp only [VR] at hy; obtain ⟨s, rfl, rfl⟩ := hy; rfl
  · cases e; simp only [VR] at hy; subst hy; rfl
  · cases e; simp only [VR] at hy; obtain ⟨cb, d, nn, a, c, q1, q2, rfl, _⟩ := hy; rfl
theorem first0 {y : SV} {v : Value} {n size : Nat} (hy : VR σ y v) (e : lenOf y = some n) : ∃ C, (Builtin.firstCells size 0 v).run P w = .ok C w ∧ C.toList = [] := by
  cases y <;> simp only [lenOf] at e <;> first | (cases e; done) | skip
  · simp only [VR] at hy
    obtain ⟨s, rfl, rfl⟩ := hy
    refine ⟨_, rfl, ?_⟩
    have : (s.extract 0 0).data.toList = [] := by
      have h1 : (s.extract 0 0).size = 0 := by simp
      have h2 : (s.extract 0 0).data.toList.length = 0 := h1
      exact List.length_eq_zero_iff.1 h2
    rw [Array.toList_map, this]
    rfl
  · simp only [VR] at hy; subst hy; exact ⟨_, rfl, rfl⟩
  · simp only [VR] at hy
    obtain ⟨cb, d, nn, a, c, q1, q2, rfl, _⟩ := hy
    refine ⟨#[], ?_, rfl⟩
    show (loadCells a (0 * size)).run P w = _
    rw [Nat.zero_mul]
    rfl
theorem copied_ok (H : HR N σ h w) {y : SV} {v : Value} {m n size : Nat} {cs : List SV} (hy : VR σ y v) (hm : lenOf y = some m) (hn : n ≤ m) (e : copied size n y h = some cs) :
    ∃ C, (Builtin.firstCells size n v).run P w = .ok C w ∧ VRL σ cs C.toList := by
  unfold copied at e
  split at e
  · simp only [lenOf] at hm
    cases hm
    obtain ⟨C, q1, q2, _⟩ := first_ok (P := P) H hy e hn
    exact ⟨C, q1 w rfl, q2⟩
  · cases e
    simp only [VR] at hy
    obtain ⟨S, rfl, rfl⟩ := hy
    refine ⟨_, rfl, ?_⟩
    have : (S.extract 0 n).data.toList = S.data.toList.take n := by
      rw [ByteArray.data_extract]
      simp
    rw [Array.toList_map, this]
    exact ofBytes_ok _ _
  · cases e
theorem copySV_ok (K : GlOk P G) (H : HR N σ h w) {ts : Array TypeId} {t rt : TypeId} {x y v : SV} {xv yv : Value} {h' : AH} (ht : ts[0]? = some t) (hx : VR σ x xv) (hy : VR σ y yv) (e : copySV G t x y h = some (v, h')) :
    EffS N h.next σ w v h' ((Builtin.copy_ ts rt #[xv, yv]).run P w) := by
  have i1 : (#[xv, yv] : Array Value)[1]? = some yv := rfl
  have i0 : (#[xv, yv] : Array Value)[0]? = some xv := rfl
  unfold copySV at e
  split at e
  · rename_i el hu
    split at e
    · rename_i size a b hsz ha hb
      obtain ⟨bs, cap, rfl, hbase⟩ : ∃ bs cap, xv = .slice bs a cap ∧ (bs = none → ∃ u, x = u ∧ u = SV.nils) := by
        cases x <;> simp only [dstLen] at ha <;> first | (cases ha; done) | skip
        · cases ha; simp only [VR] at hx; subst hx; exact ⟨none, 0, rfl, fun _ => ⟨_, rfl, rfl⟩⟩
        · cases ha; simp only [VR] at hx; obtain ⟨cb, d, nn, a, c, q1, q2, rfl, _⟩ := hx; exact ⟨some a, c, rfl, fun h => by cases h⟩
      have hmin : ∀ n : Nat, n = minB b a → Nat.min b a = n ∧ n ≤ b ∧ n ≤ a := by
        intro n hn
        unfold minB at hn
        cases hq : Nat.ble b a with
        | true => rw [hq] at hn; have := ble_true.1 hq; subst hn; exact ⟨Nat.min_eq_left this, Nat.le_refl _, this⟩
        | false => rw [hq] at hn; have := ble_false.1 hq; subst hn; exact ⟨Nat.min_eq_right (by omega), by omega, Nat.le_refl _⟩
      generalize hn : minB b a = n at e
      obtain ⟨hmin1, hnb, hna⟩ := hmin n hn.symm
      unfold copyN at e
      split at e
      · cases e
        obtain ⟨C, c1, c2⟩ := first0 (P := P) (w := w) (size := size) hy hb
        refine ⟨σ, goInt 0, w, ?_, (Sg.up_refl _ σ), H, rfl, Below.refl _ _⟩
        unfold Builtin.copy_
        simp only [ht, i0, i1, Sem.run_bind, run_underlying' K hu, Result.andThen_ok, run_lenOf hy hb, run_sizeOf K hsz, hmin1, c1, c2]
        cases bs <;> rfl
      · rename_i m
        unfold copyTo at e
        split at e
        · cases e
        · rename_i cs hcs
          split at e
          · rename_i b0 off len cap0 sz ex
            split at e
            · rename_i h1 hst
              cases e
              simp only [dstLen] at ha
              cases ha
              obtain ⟨C, c1, c2⟩ := copied_ok (P := P) H hy hb hnb hcs
              simp only [VR] at hx
              obtain ⟨cb, d, nn, a', c, q1, q2, q3, q4, q5, q6, q7, q8⟩ := hx
              cases q3
              have ha' : a' = ⟨cb, off - d, none⟩ := q7.resolve_right (by omega)
              subst ha'
              obtain ⟨w', r1, r2, r3⟩ := H.store (P := P) q1 q2 hst c2
              refine ⟨σ, goInt (m + 1 : Nat), w', ?_, (Sg.up_refl _ σ), r2, rfl, r3⟩
              unfold Builtin.copy_
              simp only [ht, i0, i1, Sem.run_bind, run_underlying' K hu, Result.andThen_ok, run_lenOf hy hb, run_sizeOf K hsz, hmin1, c1, r1]
              rfl
            · cases e
          · cases e
    · cases e
  · cases e

/-! ### functions without a body -/
theorem run_store_mode {a : Addr} {u v : Value} (m m' : Mode) (hc : w.cell? a = some u) : (store a v m).run P w = (store a v m').run P w := by
  cases v <;> simp [store, Sem.run, hc]
theorem run_load_mode {a : Addr} {u : Value} (m : Mode) (hc : w.cell? a = some u) : (load a m).run P w = .ok u w := by
  simp [load, Sem.run, hc]
theorem HR.store1 (H : HR N σ h w) {b off cb d n : Nat} {x u : SV} {v : Value} {h' : AH} (hs : σ b = some (cb, d, n)) (hd : d ≤ off) (hu : h.load1 b off = some u)
    (e : h.store b off [x] = some h') (hv : VR σ x v) (m : Mode) : ∃ w', (Go.store ⟨cb, off - d, none⟩ v m).run P w = .ok () w' ∧ HR N σ h' w' ∧ Below N w w' := by
  obtain ⟨w', r1, r2, r3⟩ := H.store (P := P) hs hd e ⟨v, [], rfl, hv, rfl⟩
  obtain ⟨v', c1, _⟩ := H.load1 hs hu
  refine ⟨w', ?_, r2, r3⟩
  rw [run_store_mode m .plain c1]
  have h1 : (storeCells ⟨cb, off - d, none⟩ [v]).run P w = ((Go.store ((⟨cb, off - d, none⟩ : Addr).add 0) v).run P w).andThen fun _ w => .ok () w := by
    show (do Go.store ((⟨cb, off - d, none⟩ : Addr).add 0) v; storeCells ⟨cb, off - d, none⟩ [] (0 + 1) : Sem Unit).run P w = _
    rw [Sem.run_bind]
    rfl
  rw [h1, addr_add, Nat.add_zero] at r1
  cases hq : (Go.store ⟨cb, off - d, none⟩ v).run P w with
  | ok x w2 =>
    rw [hq] at r1
    simp only [Result.andThen] at r1
    cases r1
    rfl
  | halt x w2 => rw [hq] at r1; simp only [Result.andThen] at r1; cases r1

theorem vrl2 {x y : SV} {L : Array Value} (e : VRL σ [x, y] L.toList) : ∃ v u, L = #[v, u] ∧ VR σ x v ∧ VR σ y u := by
  simp only [VRL] at e
  obtain ⟨v, s, e1, h1, u, s', rfl, h2, rfl⟩ := e
  exact ⟨v, u, Array.ext' (by simpa using e1), h1, h2⟩
theorem vrl3 {x y z : SV} {L : Array Value} (e : VRL σ [x, y, z] L.toList) : ∃ v u t, L = #[v, u, t] ∧ VR σ x v ∧ VR σ y u ∧ VR σ z t := by
  simp only [VRL] at e
  obtain ⟨v, s, e1, h1, u, s', rfl, h2, t, s'', rfl, h3, rfl⟩ := e
  exact ⟨v, u, t, Array.ext' (by simpa using e1), h1, h2, h3⟩

theorem xNopP_ok (H : HR N σ h w) {f : Array Value → Sem Value} {args : List SV} {L : Array Value} {v : SV} {h' : AH} (hf : ExtOk .nopP f) (hL : VRL σ args L.toList) (e : xNopP args h = .val v h') :
    EffS N h.next σ w v h' ((f L).run P w) := by
  unfold xNopP at e
  split at e
  · rename_i b off rest
    cases e
    simp only [VRL] at hL
    obtain ⟨y, s, e1, ⟨cb, d, n, q1, q2, rfl⟩, _⟩ := hL
    refine EffS.same H (hf P L w ⟨cb, off - d, none⟩ ?_) ⟨#[], rfl, rfl⟩
    rw [← Array.getElem?_toList, e1]
    rfl
  · cases e
theorem cellNotFrozen (H : HR N σ h w) {b off cb d n : Nat} {u : SV} (hs : σ b = some (cb, d, n)) (hd : d ≤ off) (hu : h.load1 b off = some u) :
    (Extern.Atomic.touchesFrozen ⟨cb, off - d, none⟩).run P w = .ok false w := by
  unfold AH.load1 at hu
  split at hu
  · rename_i k hb
    split at hu
    · rename_i hlt
      have hlt' := blt_true.1 hlt
      obtain ⟨C, e, fz, a1, a2, a3, a4, a5⟩ := H.obj b _ cb d n hb hs
      have hsh : (viewAt cb).run P w = .ok none w := by
        unfold viewAt
        have : (shape cb).run P w = .ok (some (e, C.size)) w := by simp [shape, Sem.run, World.shape?, a1]
        simp only [Sem.run_bind, this, Result.andThen_ok]
        rfl
      have hfz : w.frozen? ⟨cb, off - d, none⟩ = false := by
        simp only [World.frozen?, a1]
        have := a4.get (off - d) (by omega)
        simp only [Bool.and_eq_false_iff, decide_eq_false_iff_not]
        omega
      unfold Extern.Atomic.touchesFrozen
      simp only [Sem.run_bind, hsh, Result.andThen_ok]
      show Result.ok (w.frozen? _) w = _
      rw [hfz]
    · cases hu
  · cases hu
theorem xCas_ok (H : HR N σ h w) {f : Array Value → Sem Value} {args : List SV} {L : Array Value} {v : SV} {h' : AH} (hf : ExtOk .cas32 f) (hL : VRL σ args L.toList) (e : xCas args h = .val v h') :
    EffS N h.next σ w v h' ((f L).run P w) := by
  unfold xCas at e
  split at e
  · rename_i b off ko old kn new
    split at e
    · unfold xCas2 at e
      split at e
      · rename_i n hu
        simp only [ExtOk] at hf
        subst hf
        obtain ⟨av, ov, nv, rfl, ha, ho, hn⟩ := vrl3 hL
        simp only [VR] at ha ho hn
        obtain ⟨cb, d, m, hs, hd, rfl⟩ := ha
        subst ho hn
        obtain ⟨u', c1, c2⟩ := H.load1 hs hu
        simp only [VR] at c2
        subst c2
        have hfr := cellNotFrozen (P := P) H hs hd hu
        have hld := run_load_mode (P := P) .atomic c1
        have hread : (Extern.Atomic.read (.int .i32) ⟨cb, off - d, none⟩).run P w = .ok (.int .i32 n) w := by
          unfold Extern.Atomic.read
          simp only [Sem.run_bind, hld, Result.andThen_ok]
          rfl
        split at e
        · rename_i hq
          split at e
          · rename_i h1 hst
            cases e
            rw [eqF_eq] at hq
            obtain ⟨w', r1, r2, r3⟩ := H.store1 (P := P) (v := .int kn new) hs hd hu hst (by simp only [VR]) .atomic
            refine ⟨σ, .bool true, w', ?_, (Sg.up_refl _ σ), r2, by simp only [VR], r3⟩
            have hq' : (n == old) = true := by simpa using hq
            refine (show (asAddr (.pointer (some ⟨cb, off - d, none⟩)) >>= _ : Sem Value).run P w = _ from ?_)
            rw [Sem.run_bind, show (asAddr (.pointer (some ⟨cb, off - d, none⟩))).run P w = .ok ⟨cb, off - d, none⟩ w from rfl, Result.andThen_ok, Sem.run_bind, hfr, Result.andThen_ok]
            refine (show (Extern.Atomic.read (.int .i32) ⟨cb, off - d, none⟩ >>= _ : Sem Value).run P w = _ from ?_)
            rw [Sem.run_bind, hread, Result.andThen_ok]
            refine (show (do if (n == old) = true then Go.store ⟨cb, off - d, none⟩ (.int kn new) .atomic
                             pure (.bool (n == old)) : Sem Value).run P w = _ from ?_)
            rw [hq', if_pos rfl, Sem.run_bind, r1]
            rfl
          · cases e
        · rename_i hq
          cases e
          rw [eqF_eq] at hq
          refine EffS.same H ?_ (y := .bool false) (by simp only [VR])
          have hq' : (n == old) = false := by simpa using hq
          refine (show (asAddr (.pointer (some ⟨cb, off - d, none⟩)) >>= _ : Sem Value).run P w = _ from ?_)
          rw [Sem.run_bind, show (asAddr (.pointer (some ⟨cb, off - d, none⟩))).run P w = .ok ⟨cb, off - d, none⟩ w from rfl, Result.andThen_ok, Sem.run_bind, hfr, Result.andThen_ok]
          refine (show (Extern.Atomic.read (.int .i32) ⟨cb, off - d, none⟩ >>= _ : Sem Value).run P w = _ from ?_)
          rw [Sem.run_bind, hread, Result.andThen_ok]
          refine (show (do if (n == old) = true then Go.store ⟨cb, off - d, none⟩ (.int kn new) .atomic
                           pure (.bool (n == old)) : Sem Value).run P w = _ from ?_)
          rw [hq', if_neg (by simp)]
          rfl
      · cases e
    · cases e
  · cases e
theorem xAdd_ok (H : HR N σ h w) {f : Array Value → Sem Value} {args : List SV} {L : Array Value} {v : SV} {h' : AH} (hf : ExtOk .add32 f) (hL : VRL σ args L.toList) (e : xAdd args h = .val v h') :
    EffS N h.next σ w v h' ((f L).run P w) := by
  unfold xAdd at e
  split at e
  · rename_i b off k dl
    unfold xAdd2 at e
    split at e
    · rename_i n hu
      split at e
      · rename_i h1 hst
        cases e
        simp only [ExtOk] at hf
        subst hf
        obtain ⟨av, yv, rfl, ha, hy⟩ := vrl2 hL
        simp only [VR] at ha hy
        obtain ⟨cb, d, m, hs, hd, rfl⟩ := ha
        subst hy
        obtain ⟨u', c1, c2⟩ := H.load1 hs hu
        simp only [VR] at c2
        subst c2
        have hld := run_load_mode (P := P) .atomic c1
        have hread : (Extern.Atomic.read (.int .i32) ⟨cb, off - d, none⟩).run P w = .ok (.int .i32 n) w := by
          unfold Extern.Atomic.read
          simp only [Sem.run_bind, hld, Result.andThen_ok]
          rfl
        rw [wrapF_eq] at hst ⊢
        obtain ⟨w', r1, r2, r3⟩ := H.store1 (P := P) (v := .int .i32 (IntKind.i32.wrap (n + dl))) hs hd hu hst (by simp only [VR]; rfl) .atomic
        refine ⟨σ, .int .i32 (IntKind.i32.wrap (n + dl)), w', ?_, (Sg.up_refl _ σ), r2, by simp only [VR]; rfl, r3⟩
        refine (show (asAddr (.pointer (some ⟨cb, off - d, none⟩)) >>= _ : Sem Value).run P w = _ from ?_)
        rw [Sem.run_bind, show (asAddr (.pointer (some ⟨cb, off - d, none⟩))).run P w = .ok ⟨cb, off - d, none⟩ w from rfl, Result.andThen_ok]
        refine (show (Extern.Atomic.read (.int .i32) ⟨cb, off - d, none⟩ >>= _ : Sem Value).run P w = _ from ?_)
        rw [Sem.run_bind, hread, Result.andThen_ok]
        refine (show (Go.store ⟨cb, off - d, none⟩ (.int .i32 (IntKind.i32.wrap (n + dl))) .atomic >>= _ : Sem Value).run P w = _ from ?_)
        rw [Sem.run_bind, r1]
        rfl
      · cases e
    · cases e
  · cases e
theorem xClone_ok (H : HR N σ h w) {f : Array Value → Sem Value} {args : List SV} {L : Array Value} {v : SV} {h' : AH} (hf : ExtOk .mapsClone f) (hL : VRL σ args L.toList) (e : xClone args h = .val v h') :
    EffS N h.next σ w v h' ((f L).run P w) := by
  unfold xClone at e
  split at e
  · rename_i t b
    split at e
    · rename_i es clock hb
      cases e
      simp only [ExtOk] at hf
      subst hf
      obtain ⟨y, rfl, q⟩ := vrl_one hL
      simp only [VR] at q
      obtain ⟨y', rfl, cb, d, n, hs, rfl⟩ := q
      obtain ⟨E, hE, hA⟩ := H.map hb hs
      have hf' : σ h.next = none := H.fresh _ (Nat.le_refl _)
      have hle : σ.le (σ.put h.next (w.heap.size, 0, 0)) := Sg.le_put _ hf'
      refine ⟨_, .iface t (.map (some w.heap.size)), w.alloc (.map E clock), ?_, Sg.up_put _ hf' (Nat.le_refl _), HR.new (n := 0) H (alloc_heap _) ⟨E, by rw [alloc_heap, push_get], hA.mono fun _ _ => EntR.mono hle⟩,
        ⟨_, rfl, _, _, _, Sg.put_self _ _ _, rfl⟩, below_alloc _ H.big.2⟩
      show (do
        let .map entries clock ← getObj cb | stuck "maps.clone: a map expected"
        pure (.iface t (.map (some (← newObj (.map entries clock))))) : Sem Value).run P w = _
      simp only [Sem.run_bind, run_getObj_map hE, Result.andThen_ok]
      rfl
    · cases e
  · cases e
theorem idxByte_ok (c : Nat) (hc : c < 256) : ∀ (s : List UInt8) (S : ByteArray) (i : Nat), (∀ j, j < s.length → s[j]? = some (S[i + j]!)) →
    idxByte c s i = (match (List.range' i s.length).find? (fun j => S[j]! == UInt8.ofNat c) with | some j => (j : Int) | none => -1)
  | [], S, i, _ => rfl
  | b :: r, S, i, hs => by
    have h0 := hs 0 (by simp)
    simp at h0
    simp only [idxByte, List.length_cons, List.range'_succ, List.find?_cons]
    rw [← h0]
    have hb : (b == UInt8.ofNat c) = Nat.beq b.toNat c := by
      rw [Bool.eq_iff_iff, beq_true, beq_iff_eq]
      constructor
      · rintro rfl; simp [UInt8.toNat_ofNat', Nat.mod_eq_of_lt hc]
      · rintro rfl; simp
    rw [hb]
    cases hq : Nat.beq b.toNat c with
    | true => rfl
    | false =>
      simp only
      exact idxByte_ok c hc r S (i + 1) (fun j hj => by
        have := hs (j + 1) (by simpa using hj)
        rw [show i + 1 + j = i + (j + 1) from by omega]
        simpa using this)
theorem xIdx_ok (H : HR N σ h w) {f : Array Value → Sem Value} {args : List SV} {L : Array Value} {v : SV} {h' : AH} (hf : ExtOk .indexByteString f) (hL : VRL σ args L.toList) (e : xIdx args h = .val v h') :
    EffS N h.next σ w v h' ((f L).run P w) := by
  unfold xIdx at e
  split at e
  · rename_i s c
    split at e
    · rename_i hc
      have hc' := blt_true.1 hc
      cases e
      simp only [ExtOk] at hf
      subst hf
      obtain ⟨y, u, rfl, hy, hu⟩ := vrl2 hL
      simp only [VR] at hy hu
      obtain ⟨S, rfl, rfl⟩ := hy
      subst hu
      have hidx := idxByte_ok c hc' S.data.toList S 0 (fun j hj => by
        have hj' : j < S.data.size := by simpa using hj
        rw [Nat.zero_add, Array.getElem?_toList, Array.getElem?_eq_getElem hj']
        congr 1
        have : j < S.size := hj'
        rw [getElem!_pos S j this]
        rfl)
      refine EffS.same H ?_ (y := goInt (idxByte c S.data.toList 0)) (by simp only [VR]; rfl)
      show (do
        let b ← Extern.Bytes.bytesOf (.string S)
        let c ← Extern.Bytes.asByte (.int .u8 (Int.ofNat c))
        match (List.range b.size).find? fun i => b[i]! == c with
        | some i => pure (goInt i)
        | none => pure (goInt (-1)) : Sem Value).run P w = _
      have h1 : (Extern.Bytes.bytesOf (.string S)).run P w = .ok S w := rfl
      have h2 : (Extern.Bytes.asByte (.int .u8 (Int.ofNat c))).run P w = .ok (UInt8.ofNat c) w := rfl
      simp only [Sem.run_bind, h1, h2, Result.andThen_ok]
      have h3 : S.data.toList.length = S.size := rfl
      rw [hidx, h3, List.range_eq_range']
      cases (List.range' 0 S.size).find? (fun j => S[j]! == UInt8.ofNat c) <;> rfl
    · cases e
  · cases e

theorem externSV_ok (H : HR N σ h w) {x : Ext} {f : Array Value → Sem Value} {args : List SV} {L : Array Value} {v : SV} {h' : AH} (hf : ExtOk x f) (hL : VRL σ args L.toList) (e : externSV x args h = .val v h') :
    EffS N h.next σ w v h' ((f L).run P w) := by
  cases x <;> simp only [externSV] at e
  · cases e; exact EffS.same H (hf P L w) ⟨#[], rfl, rfl⟩
  · exact xNopP_ok H hf hL e
  · exact xCas_ok H hf hL e
  · exact xAdd_ok H hf hL e
  · exact xClone_ok H hf hL e
  · exact xIdx_ok H hf hL e
  · cases e
end
end Go.Ex

/- Calls: whom they enter, and with what. Conditions: the tables that the executor asks are the program's. -/
namespace Go.Ex
open Go.RowKit (Below)
section
variable {N : Nat} {σ : Sg} {h : AH} {w w' : World} {P : Program} {G : Gl} {A : Array Value} {tm : T SV} {nt : Nat}

/-- what an act says of what the model does -/
def ActR (G : Gl) (N : Nat) (σ : Sg) (h : AH) (w : World) (a : Act) (r : Result Next) : Prop :=
  match a with
  | .val v h' => EffR N h.next σ w v h' r
  | .alts l => EffA N h.next σ w l r
  | .call f args h' => h' = h ∧ ∀ fn body, G.fn f = some fn → fn.body = some body → ∃ L : Array Value, r = .ok (.enter f L) w ∧ VRL σ args L.toList
  | .round l args => ∀ lp, h.t.get l = some (.loop lp) → lp.params.length = args.length → (∀ i ∈ lp.params, i < lp.nt) →
      ∃ cl d n T, σ l = some (cl, d, n) ∧ r = .ok (.round cl lp.fn T lp.assign lp.body) w ∧ TmR σ (putParams lp.tmps (lp.params.zip args)) lp.nt T
  | .defer d => ∃ D, r = .ok (.defer D) w ∧ DefR σ d D
  | .recover => r = .ok .recover w
  | .panic v => ∃ y, r = .halt (.panic y) w ∧ VR σ v y
  | .fail _ => True

theorem callF_ok (K : GlOk P G) (H : HR N σ h w) {f : FuncId} {args : List SV} {L : Array Value} (hL : VRL σ args L.toList) : ActR G N σ h w (callF G f args h) ((callFunc f L).run P w) := by
  unfold callF
  split
  · rename_i x hx
    obtain ⟨fn, e, h1, h2, h3, h4, h5, h6⟩ := K.ext f x hx
    cases ha : externSV x args h with
    | val v h' =>
      have q : EffR N h.next σ w v h' ((do pure (.value (← e L)) : Sem Next).run P w) := EffS.next (externSV_ok (P := P) H h6 hL ha)
      show EffR N h.next σ w v h' _
      have : (callFunc f L).run P w = ((do pure (.value (← e L)) : Sem Next)).run P w := by
        unfold callFunc
        simp only [Sem.run_bind, run_program, Result.andThen_ok, h1, h2, h3, h4, h5]
        simp [mark, Sem.run]
      rw [this]
      exact q
    | fail => trivial
    | _ =>
      exfalso
      cases x <;> simp only [externSV] at ha
      all_goals first
        | (cases ha; done)
        | (unfold xNopP at ha; split at ha <;> cases ha; done)
        | (unfold xCas at ha; split at ha <;> first | (cases ha; done) | (split at ha <;> first | (cases ha; done) | (unfold xCas2 at ha; split at ha <;> first | (cases ha; done) | (split at ha <;> first | (cases ha; done) | (split at ha <;> cases ha; done)))))
        | (unfold xAdd at ha; split at ha <;> first | (cases ha; done) | (unfold xAdd2 at ha; split at ha <;> first | (cases ha; done) | (split at ha <;> cases ha; done)))
        | (unfold xClone at ha; split at ha <;> first | (cases ha; done) | (split at ha <;> cases ha; done))
        | (unfold xIdx at ha; split at ha <;> first | (cases ha; done) | (split at ha <;> cases ha; done))
  · refine ⟨rfl, fun fn body hfn hb => ⟨L, ?_, hL⟩⟩
    unfold callFunc
    simp only [Sem.run_bind, run_program, Result.andThen_ok, K.fn f fn hfn, K.fnm f fn hfn, hb]
    rfl

/-! ### methods -/
def PlaceR (G : Gl) (σ : Sg) (w : World) (t : TypeId) (x : SV) : Place → Prop
  | .val v => VR σ x v
  | .var a => isAggT G t = some false ∧ ∃ v, w.cell? a = some v ∧ VR σ x v
theorem PlaceR.get (K : GlOk P G) {t : TypeId} {x : SV} {p : Place} (hp : PlaceR G σ w t x p) : ∃ v, (p.get t).run P w = .ok v w ∧ VR σ x v := by
  cases p with
  | val v => exact ⟨v, rfl, hp⟩
  | var a =>
    obtain ⟨h1, v, h2, h3⟩ := hp
    refine ⟨v, ?_, h3⟩
    show (loadVar t a).run P w = _
    unfold loadVar
    simp only [Sem.run_bind, run_isAgg K h1, Result.andThen_ok]
    exact run_load_mode .plain h2
theorem followSV_ok (K : GlOk P G) (H : HR N σ h w) : ∀ (steps : List FieldStep) (t : TypeId) (x : SV) (v : Value) (rt : TypeId) (rx : SV), VR σ x v → followSV G steps t x h = some (rt, rx) →
    ∃ p, (follow steps t (.val v)).run P w = .ok (rt, p) w ∧ PlaceR G σ w rt rx p
  | [], t, x, v, rt, rx, hx, e => by
    simp only [followSV] at e
    cases e
    exact ⟨.val v, rfl, hx⟩
  | s :: rest, t, x, v, rt, rx, hx, e => by
    simp only [followSV] at e
    split at e
    · rename_i fs hu
      split at e
      · rename_i f hf
        split at e
        · rename_i hd
          split at e
          · rename_i b off hag hsz
            split at e
            · rename_i x' hld
              cases e
              simp only [VR] at hx
              obtain ⟨cb, d, n, hs, hdo, rfl⟩ := hx
              obtain ⟨v', c1, c2⟩ := H.load1 hs hld
              refine ⟨.var ⟨cb, off - d + f.offset, none⟩, ?_, hag, v', ?_, c2⟩
              · unfold follow
                simp only [Sem.run_bind, run_underlying' K hu, Result.andThen_ok, hf, hd, if_true, Place.get, Sem.run_pure, asAddr, fieldPlace, run_sizeOf K hsz]
                rw [if_neg (by omega), Sem.run_pure, Result.andThen_ok, addr_add]
                rfl
              · have eo : Nat.add off f.offset = off + f.offset := rfl
                rw [eo] at c1
                rw [show off - d + f.offset = off + f.offset - d from by omega]
                exact c1
            · cases e
          · cases e
        · rename_i hd
          split at e
          · rename_i cs
            split at e
            · rename_i x' hp
              simp only [VR] at hx
              obtain ⟨C, rfl, hC⟩ := hx
              obtain ⟨z, z1, z2⟩ := run_part (P := P) (w := w) K hC hp
              obtain ⟨p, p1, p2⟩ := followSV_ok K H rest f.type x' z rt rx z2 e
              refine ⟨p, ?_, p2⟩
              unfold follow
              simp only [Sem.run_bind, run_underlying' K hu, Result.andThen_ok, hf, hd, Bool.false_eq_true, if_false, z1]
              exact p1
            · cases e
          · cases e
      · cases e
    · cases e
theorem findMethod_ok (name : String) : ∀ (l : List Method), findMethod name l = l.find? (·.name == name)
  | [] => rfl
  | m :: r => by
    simp only [findMethod, List.find?_cons]
    cases h : m.name == name with
    | true => simp
    | false => simp [findMethod_ok name r]
theorem methodSV_ok (K : GlOk P G) (H : HR N σ h w) {name : String} : ∀ (fu m : Nat), fu ≤ m → ∀ (t : TypeId) (x : SV) (v : Value) (f : FuncId) (r : SV), VR σ x v → methodSV G fu t x name h = some (f, r) →
    ∃ y, (method m t v name).run P w = .ok (f, y) w ∧ VR σ r y
  | 0, m, _, t, x, v, f, r, _, e => by simp [methodSV] at e
  | fu + 1, 0, hm, t, x, v, f, r, _, e => by omega
  | fu + 1, m + 1, hm, t, x, v, f, r, hx, e => by
    simp only [methodSV] at e
    split at e
    · cases e
    · rename_i i hi
      split at e
      · cases e
      · rename_i mm hmm
        rw [findMethod_ok] at hmm
        have hfind : i.methods.find? (·.name == name) = some mm := by rw [← Array.find?_toList]; exact hmm
        split at e
        · cases e
        · rename_i xt y hfo
          obtain ⟨p, p1, p2⟩ := followSV_ok (P := P) K H _ _ _ _ _ _ hx hfo
          obtain ⟨pv, g1, g2⟩ := p2.get (P := P) K
          unfold method
          simp only [Sem.run_bind, run_typeInfo K hi, Result.andThen_ok, hfind, p1]
          split at e
          · rename_i hfunc
            split at e
            · rename_i t' v'
              simp only [VR] at g2
              obtain ⟨u, rfl, g3⟩ := g2
              obtain ⟨z, z1, z2⟩ := methodSV_ok K H fu m (by omega) t' v' u f r g3 e
              refine ⟨z, ?_, z2⟩
              simp only [hfunc, Sem.run_bind, g1, Result.andThen_ok]
              exact z1
            · cases e
          · rename_i f0 pr hfunc
            simp only [hfunc]
            have fin : ∀ z, (receiverAt xt p pr (if mm.path.isEmpty then some ((name.splitOn ".").getLastD name) else none)).run P w = .ok z w → VR σ r z → f0 = f →
                ∃ y, (do pure (f0, ← receiverAt xt p pr (if mm.path.isEmpty then some ((name.splitOn ".").getLastD name) else none)) : Sem (FuncId × Value)).run P w = .ok (f, y) w ∧ VR σ r y := by
              intro z z1 z2 hf
              subst hf
              exact ⟨z, by rw [Sem.run_bind, z1]; rfl, z2⟩
            split at e
            · rename_i el hu
              cases e
              refine fin pv ?_ g2 rfl
              unfold receiverAt
              simp only [Sem.run_bind, run_underlying' K hu, Result.andThen_ok]
              exact g1
            · rename_i el hu
              have hptr : ∀ (b off : Nat), y = .ptr b off → ∃ a : Addr, pv = .pointer (some a) ∧ (∃ cb d n, σ b = some (cb, d, n) ∧ d ≤ off ∧ a = ⟨cb, off - d, none⟩) ∧
                  (receiverAt xt p false (if mm.path.isEmpty then some ((name.splitOn ".").getLastD name) else none)).run P w = (loadVar el a).run P w := by
                rintro b off rfl
                simp only [VR] at g2
                obtain ⟨cb, d, n, hs, hd, rfl⟩ := g2
                refine ⟨_, rfl, ⟨cb, d, n, hs, hd, rfl⟩, ?_⟩
                unfold receiverAt
                simp only [Sem.run_bind, run_underlying' K hu, Result.andThen_ok, g1]
                cases mm.path.isEmpty <;> rfl
              split at e
              · rename_i b off n hag hsz
                split at e
                · rename_i l hl
                  cases e
                  obtain ⟨a, rfl, ⟨cb, d, nn, hs, hd, rfl⟩, q⟩ := hptr b off rfl
                  obtain ⟨C, c1, c2, c3, c4⟩ := H.load (P := P) hs hd hl
                  refine fin (.agg C) ?_ ⟨C, rfl, c2⟩ rfl
                  rw [q]
                  unfold loadVar
                  simp only [Sem.run_bind, run_isAgg K hag, Result.andThen_ok, if_true, run_sizeOf K hsz, c1]
                  rfl
                · cases e
              · rename_i b off hag
                split at e
                · rename_i y' hl
                  cases e
                  obtain ⟨a, rfl, ⟨cb, d, nn, hs, hd, rfl⟩, q⟩ := hptr b off rfl
                  obtain ⟨v', c1, c2⟩ := H.load1 hs hl
                  refine fin v' ?_ c2 rfl
                  rw [q]
                  unfold loadVar
                  simp only [Sem.run_bind, run_isAgg K hag, Result.andThen_ok]
                  exact run_load_mode .plain c1
                · cases e
              · cases e
            · rename_i D hne hu
              cases e
              refine fin pv ?_ g2 rfl
              unfold receiverAt
              simp only [Sem.run_bind, run_underlying' K hu, Result.andThen_ok]
              cases D <;> first | exact g1 | (exact absurd rfl (hne _))
            · cases e
end
end Go.Ex

/- Every operation that does something. Conditions: the tables that the executor asks are the program's. -/
namespace Go.Ex
open Go.RowKit (Below)
section
variable {N : Nat} {σ : Sg} {h : AH} {w w' : World} {P : Program} {G : Gl} {A : Array Value} {tm : T SV} {nt : Nat}

theorem vrl_cons {x : SV} {r : List SV} {L : Array Value} (e : VRL σ (x :: r) L.toList) : ∃ v R, L[0]? = some v ∧ L.extract 1 L.size = R ∧ VR σ x v ∧ VRL σ r R.toList := by
  simp only [VRL] at e
  obtain ⟨v, s, e1, h1, h2⟩ := e
  obtain ⟨L⟩ := L
  simp at e1
  subst e1
  exact ⟨v, _, by simp, rfl, h1, by simpa using h2⟩
theorem putParams_ok : ∀ (ps : List (Tmp × SV)) (PS : List (Tmp × Value)) (tm : T SV) (A : Array Value), All2 (fun a b => a.1 = b.1 ∧ VR σ a.2 b.2) ps PS → (∀ x ∈ ps, x.1 < nt) → TmR σ tm nt A →
    TmR σ (putParams tm ps) nt (PS.foldl (fun tmps x => tmps.setIfInBounds x.1 x.2) A)
  | [], _, tm, A, hP, _, hT => by cases hP; exact hT
  | (i, v) :: r, _, tm, A, hP, hlt, hT => by
    cases hP with
    | cons h1 h2 =>
      rename_i b PS
      obtain ⟨j, u⟩ := b
      obtain ⟨e1, e2⟩ := h1
      simp only at e1 e2
      subst e1
      have hi : i < nt := hlt (i, v) List.mem_cons_self
      refine putParams_ok r PS _ _ h2 (fun x hx => hlt x (List.mem_cons_of_mem _ hx)) ⟨by simp [hT.1], fun t x hx => ?_⟩
      rw [T.get_set] at hx
      simp only
      rw [Array.getElem?_setIfInBounds]
      split at hx
      · rename_i ht
        subst ht
        cases hx
        exact ⟨u, by rw [if_pos rfl, if_pos (by rw [hT.1]; exact hi)], e2⟩
      · rename_i ht
        rw [if_neg (Ne.symm ht)]
        exact hT.2 t x hx
theorem zip_ok : ∀ (ps : List Tmp) (args : List SV) (L : List Value), VRL σ args L → All2 (fun (a : Tmp × SV) (b : Tmp × Value) => a.1 = b.1 ∧ VR σ a.2 b.2) (ps.zip args) (ps.zip L)
  | [], _, _, _ => by simp; exact .nil
  | p :: r, [], L, h => by simp only [VRL] at h; subst h; simp; exact .nil
  | p :: r, x :: s, L, h => by
    simp only [VRL] at h
    obtain ⟨v, t, rfl, h1, h2⟩ := h
    exact .cons ⟨rfl, h1⟩ (zip_ok r s t h2)
theorem yield_ok (H : HR N σ h w) {l cl d n : Nat} {args : List SV} {L : Array Value} (hs : σ l = some (cl, d, n)) (hL : VRL σ args L.toList) : ActR G N σ h w (.round l args) ((Instr.yield cl L).run P w) := by
  intro lp hl hlen hlt
  obtain ⟨R, hR, r1, r2, r3, r4, r5, r6, r7, r8⟩ := H.obj l _ cl d n hl hs
  have hg : (Instr.getLoop cl).run P w = .ok R w := by
    unfold Instr.getLoop
    have : (getObj cl).run P w = .ok (.loop R) w := by simp [getObj, Sem.run, hR]
    simp only [Sem.run_bind, this, Result.andThen_ok]
    rfl
  have hsz : L.size = R.params.size := by
    have h1 := hL.length
    have h2 : R.params.toList.length = lp.params.length := by rw [r5]
    simp at h1 h2
    omega
  refine ⟨cl, d, n, (R.params.zip L).foldl (fun tmps (t, a) => tmps.setIfInBounds t a) R.tmps, hs, ?_, ?_⟩
  · unfold Instr.yield
    simp only [Sem.run_bind, hg, Result.andThen_ok]
    rw [if_neg (by simp [hsz]), Sem.run_pure, r3, r6, r7]
  · have hz : (R.params.zip L).toList = lp.params.zip L.toList := by rw [Array.toList_zip, r5]
    rw [← Array.foldl_toList, hz]
    exact putParams_ok _ _ _ _ (zip_ok lp.params args L.toList hL) (fun x hx => hlt x.1 (List.of_mem_zip hx).1) r4

theorem callMethod_ok (K : GlOk P G) (H : HR N σ h w) {t : TypeId} {x r : SV} {v : Value} {name : String} {f : FuncId} {args : List SV} {R : Array Value} (hx : VR σ x v) (hR : VRL σ args R.toList)
    (hm : methodSV G 20 t x name h = some (f, r)) : ActR G N σ h w (callF G f (r :: args) h) ((callMethod (.iface t v) name R).run P w) := by
  obtain ⟨y, y1, y2⟩ := methodSV_ok (P := P) K H 20 (P.types.size + Made.depth) (by have : Made.depth = 100 := rfl; omega) t x v f r hx hm
  have : (callMethod (.iface t v) name R).run P w = (callFunc f (#[y] ++ R)).run P w := by
    unfold callMethod
    simp only [Sem.run_bind, run_program, Result.andThen_ok, y1]
  rw [this]
  exact callF_ok K H (by rw [Array.toList_append]; exact ⟨y, R.toList, rfl, y2, hR⟩)
theorem invokeF_ok (K : GlOk P G) (H : HR N σ h w) {fn fn' : Fn} {cap args : List SV} {C L : Array Value} (hf : FnR σ fn fn') (hC : VRL σ cap C.toList) (hL : VRL σ args L.toList) :
    ActR G N σ h w (invokeF G fn cap args h) ((invoke (.fn fn' C) L).run P w) := by
  cases fn with
  | func f =>
    simp only [FnR] at hf
    subst hf
    simp only [invokeF]
    exact callF_ok K H (by rw [Array.toList_append]; exact hL.append hC)
  | method name =>
    simp only [FnR] at hf
    subst hf
    simp only [invokeF]
    split
    · rename_i t x rest
      split
      · rename_i f r hm
        obtain ⟨v, R, h0, hR, hv, hr⟩ := vrl_cons hL
        simp only [VR] at hv
        obtain ⟨y, rfl, hy⟩ := hv
        have : (invoke (.fn (.method name) C) L).run P w = (callMethod (.iface t y) name R).run P w := by
          simp only [invoke, h0, hR]
        rw [this]
        exact callMethod_ok K H hy hr hm
      · trivial
    · trivial
  | methodOf t name =>
    simp only [FnR] at hf
    subst hf
    simp only [invokeF]
    split
    · rename_i ms t' x rest hu
      split
      · rename_i f r hm
        obtain ⟨v, R, h0, hR, hv, hr⟩ := vrl_cons hL
        simp only [VR] at hv
        obtain ⟨y, rfl, hy⟩ := hv
        have : (invoke (.fn (.methodOf t name) C) L).run P w = (callMethod (.iface t' y) name R).run P w := by
          simp only [invoke, h0, hR, Sem.run_bind, run_underlying' K hu, Result.andThen_ok]
        rw [this]
        exact callMethod_ok K H hy hr hm
      · trivial
    · trivial
    · rename_i D x rest hne hu
      split
      · rename_i f r hm
        obtain ⟨v, R, h0, hR, hv, hr⟩ := vrl_cons hL
        have : (invoke (.fn (.methodOf t name) C) L).run P w = (callMethod (.iface t v) name R).run P w := by
          simp only [invoke, h0, hR, Sem.run_bind, run_underlying' K hu, Result.andThen_ok]
        rw [this]
        exact callMethod_ok K H hv hr hm
      · trivial
    · trivial
  | yield l =>
    simp only [FnR] at hf
    obtain ⟨cl, d, n, hs, rfl⟩ := hf
    simp only [invokeF]
    have : (invoke (.fn (.yield cl) C) L).run P w = (Instr.yield cl L).run P w := by simp only [invoke]
    rw [this]
    exact yield_ok H hs hL
  | via => simp only [invokeF]; trivial

theorem ofR_ok {why : String} {r : R1} {s : Sem Value} (hk : ∀ v h', r = some (v, h') → EffS N h.next σ w v h' (s.run P w)) : ActR G N σ h w (ofR why r) ((do pure (.value (← s)) : Sem Next).run P w) := by
  unfold ofR
  split
  · rename_i v h'
    exact (hk v h' rfl).next
  · trivial
theorem ofH_ok {why : String} {r : Option AH} {s : Sem Unit} (hk : ∀ h', r = some h' → ∃ w', s.run P w = .ok () w' ∧ HR N σ h' w' ∧ Below N w w') : ActR G N σ h w (ofH why r) ((do s; pure .skip : Sem Next).run P w) := by
  unfold ofH
  split
  · rename_i h'
    obtain ⟨w', a, b, c⟩ := hk h' rfl
    exact effR_skip (h := h) a b c
  · trivial
theorem callB_ok (K : GlOk P G) (H : HR N σ h w) {b : Builtin} {ts : Array TypeId} {rt : TypeId} {cs : Array Bool} {args : List SV} {L : Array Value} (hL : VRL σ args L.toList) :
    ActR G N σ h w (callB G b ts args h) ((builtin b ts rt cs L).run P w) := by
  unfold callB
  split
  · rename_i t s x ht
    obtain ⟨v, u, rfl, h1, h2⟩ := vrl2 hL
    exact ofR_ok (s := Builtin.append_ ts rt #[v, u]) fun y h' e => appendSV_ok K H ht h1 h2 e
  · rename_i t s x ht
    obtain ⟨v, u, rfl, h1, h2⟩ := vrl2 hL
    exact ofR_ok (s := Builtin.copy_ ts rt #[v, u]) fun y h' e => copySV_ok K H ht h1 h2 e
  · rename_i t s x ht
    obtain ⟨v, u, rfl, h1, h2⟩ := vrl2 hL
    refine ofR_ok (s := Builtin.delete_ ts rt #[v, u]) fun y h' e => ?_
    obtain ⟨yv, w', a, b, c, d⟩ := delete_ok (rt := rt) K H ht h1 h2 e
    exact ⟨σ, yv, w', a, (Sg.up_refl _ σ), c, b, d⟩
  · rfl
  · rename_i t x
    obtain ⟨v, rfl, hv⟩ := vrl_one hL
    refine ⟨v, ?_, hv⟩
    simp only [VR] at hv
    obtain ⟨y, rfl, _⟩ := hv
    rfl
  · trivial
theorem eCall_ok (K : GlOk P G) (H : HR N σ h w) (hT : TmR σ tm nt A) (hg : Glob σ) {c : Call} {rt : TypeId} :
    ActR G N σ h w (eCall G c tm h) ((do let d ← resolve (rho A) c rt; invoke d.target d.args : Sem Next).run P w) := by
  unfold eCall
  split
  · trivial
  · rename_i args hargs
    have hL := args_ok hT hg hargs
    unfold callO
    split
    · rename_i b hb
      have : (do let d ← resolve (rho A) c rt; invoke d.target d.args : Sem Next).run P w = (builtin b c.argTypes rt (c.args.map fun | .const _ => true | _ => false) (c.args.map (rho A))).run P w := by
        unfold resolve
        simp only [hb, Sem.run_bind, Sem.run_pure, Result.andThen_ok]
        rfl
      rw [this]
      exact callB_ok K H hL
    · rename_i r name hb
      unfold callI
      split
      · rename_i x hx
        have : (do let d ← resolve (rho A) c rt; invoke d.target d.args : Sem Next).run P w = (invoke (.fn (.method name) #[]) (#[rho A r] ++ c.args.map (rho A))).run P w := by
          unfold resolve
          simp only [hb, Sem.run_bind, Sem.run_pure, Result.andThen_ok]
        rw [this]
        exact invokeF_ok K H (by simp only [FnR]) (by rfl) (by rw [Array.toList_append]; exact ⟨_, _, rfl, evalQ_ok hT hg hx, hL⟩)
      · trivial
    · rename_i f hb
      unfold callV
      split
      · rename_i fn first cap hf
        have hv := evalQ_ok hT hg hf
        simp only [VR] at hv
        obtain ⟨fn', F, C, hfv, h1, h2, h3⟩ := hv
        have : (do let d ← resolve (rho A) c rt; invoke d.target d.args : Sem Next).run P w = (invoke (.fn fn' C) (F ++ c.args.map (rho A))).run P w := by
          unfold resolve
          simp only [hb, hfv, Deferred.ofValue, Sem.run_bind, Sem.run_pure, Result.andThen_ok]
        rw [this]
        exact invokeF_ok K H h1 h3 (by rw [Array.toList_append]; exact h2.append hL)
      · trivial
theorem eDefer_ok (hT : TmR σ tm nt A) (hg : Glob σ) {c : Call} {rt : TypeId} : ActR G N σ h w (eDefer c tm h) ((do pure (.defer (← resolve (rho A) c rt)) : Sem Next).run P w) := by
  unfold eDefer
  split
  · rename_i d hd
    unfold deferO at hd
    split at hd
    · cases hd
    · rename_i args hargs
      have hL := args_ok hT hg hargs
      split at hd
      · rename_i f hb
        split at hd
        · rename_i fn first cap hf
          cases hd
          have hv := evalQ_ok hT hg hf
          simp only [VR] at hv
          obtain ⟨fn', F, C, hfv, h1, h2, h3⟩ := hv
          refine ⟨{ target := .fn fn' C, args := F ++ c.args.map (rho A) }, ?_, ?_⟩
          · unfold resolve
            simp only [hb, hfv, Deferred.ofValue, Sem.run_bind, Sem.run_pure, Result.andThen_ok]
          · exact ⟨fn', C, rfl, h1, h3, by rw [Array.toList_append]; exact h2.append hL⟩
        · cases hd
      · cases hd
  · trivial
theorem ePanic_ok (hT : TmR σ tm nt A) (hg : Glob σ) {x : Operand} : ActR G N σ h w (ePanic x tm h) ((do pure (.value (← Instr.panic (rho A x))) : Sem Next).run P w) := by
  unfold ePanic
  split
  · rename_i t v hx
    have h1 := evalQ_ok hT hg hx
    refine ⟨rho A x, ?_, h1⟩
    simp only [VR] at h1
    obtain ⟨y, e, _⟩ := h1
    rw [e]
    rfl
  · trivial
theorem ofR_act (why : String) (r : R1) : (∃ v h', ofR why r = .val v h') ∨ ∃ y, ofR why r = .fail y := by
  unfold ofR
  split
  · exact .inl ⟨_, _, rfl⟩
  · exact .inr ⟨_, rfl⟩
theorem new_act {o : Op} (hi : isNew G o = true) : (∃ v h', opE G o tm h = .val v h') ∨ ∃ y, opE G o tm h = .fail y := by
  cases o <;> simp only [isNew] at hi <;> (first | (cases hi; done) | skip) <;> simp only [opE]
  case alloc e => unfold eAlloc; split <;> first | exact .inl ⟨_, _, rfl⟩ | exact .inr ⟨_, rfl⟩
  case box e x => unfold eBox; split <;> first | exact .inl ⟨_, _, rfl⟩ | exact .inr ⟨_, rfl⟩
  case buildSlice t n ps => unfold eBSl; split <;> first | exact ofR_act _ _ | exact .inr ⟨_, rfl⟩
  case makeMap t r =>
    unfold eMkM
    split
    · exact .inl ⟨_, _, rfl⟩
    · split <;> first | exact .inl ⟨_, _, rfl⟩ | exact .inr ⟨_, rfl⟩
  case makeSlice t l c =>
    unfold eMkS
    split
    · split <;> first | exact ofR_act _ _ | exact .inr ⟨_, rfl⟩
    · exact .inr ⟨_, rfl⟩
  case convert s d x =>
    have hs : G.ut s = some .string := by
      split at hi
      · cases hu : G.ut s with
        | none => rw [hu] at hi; cases hi
        | some D => rw [hu] at hi; cases D <;> first | rfl | cases hi
      · cases hi
    unfold eConv
    split
    · rw [hs]; exact ofR_act _ _
    · exact .inr ⟨_, rfl⟩

/-- a row that is marked beyond its cells -/
theorem HR.mark (H : HR N σ h w) {b cb d n : Nat} {k : Blk} (_hb : h.t.get b = some (.cells k)) (hs : σ b = some (cb, d, n)) (hbb : base ≤ b) {C : Array Value} {e : TypeId} {fz : Nat × Nat} (hC : w.heap[cb]? = some (.cells C e fz)) (hn : C.size = n) (hf : FzOk fz n) :
    HR N σ h (w.freeze ⟨cb, n, none⟩ 1) ∧ Below N w (w.freeze ⟨cb, n, none⟩ 1) := by
  have hlt : cb < w.heap.size := (Array.getElem?_eq_some_iff.1 hC).1
  have hheap : (w.freeze ⟨cb, n, none⟩ 1).heap = w.heap.modify cb fun | .cells c elem (lo, hi) => .cells c elem (if lo == hi then (n, n + 1) else (min lo n, max hi (n + 1))) | o => o := by
    unfold World.freeze
    rw [if_neg (by decide)]
    rfl
  have other : ∀ c, c ≠ cb → (w.freeze ⟨cb, n, none⟩ 1).heap[c]? = w.heap[c]? := by
    intro c hc
    rw [hheap, Array.getElem?_modify, if_neg (Ne.symm hc)]
  have here : ∃ fz', (w.freeze ⟨cb, n, none⟩ 1).heap[cb]? = some (.cells C e fz') ∧ FzOk fz' n := by
    obtain ⟨lo, hi⟩ := fz
    refine ⟨if lo == hi then (n, n + 1) else (min lo n, max hi (n + 1)), ?_, ?_⟩
    · rw [hheap, Array.getElem?_modify, if_pos rfl, hC]
      rfl
    · by_cases hlh : lo = hi
      · simp [hlh, FzOk]
      · have hb2 : (lo == hi) = false := by simp [hlh]
        simp only [hb2, Bool.false_eq_true, if_false]
        rcases hf with h1 | h1
        · exact absurd h1 hlh
        · right
          simp only at h1 ⊢
          omega
  obtain ⟨fz', h1, h2⟩ := here
  have hsz : (w.freeze ⟨cb, n, none⟩ 1).heap.size = w.heap.size := by rw [hheap]; simp
  refine ⟨⟨fun b' o cb' d' n' a s => ?_, H.fresh, H.sep, H.low, ⟨H.big.1, by rw [hsz]; exact H.big.2⟩, H.nc⟩, ?_⟩
  · have ho := H.obj b' o cb' d' n' a s
    by_cases hcb : cb' = cb
    · subst hcb
      cases o with
      | cells k' =>
        obtain ⟨C', e', fz'', q1, q2, q3, q4, q5⟩ := ho
        rw [hC] at q1
        cases q1
        exact ⟨C, e, fz', h1, q2, q3, by rw [← q2, hn]; exact h2, q5⟩
      | map es clock => obtain ⟨E, q, _⟩ := ho; rw [hC] at q; cases q
      | mapIter m since seen stepped => obtain ⟨m', q, _⟩ := ho; rw [hC] at q; cases q
      | strIter s pos => obtain ⟨S, q, _⟩ := ho; rw [hC] at q; cases q
      | loop l => obtain ⟨L, q, _⟩ := ho; rw [hC] at q; cases q
      | deferred l =>
        cases l with
        | none => have q : w.heap[cb']? = some (.deferred none) := ho; rw [hC] at q; cases q
        | some l => obtain ⟨D, q, _⟩ := ho; rw [hC] at q; cases q
    · exact ho.world (other _ hcb)
  · have hN : N ≤ cb := H.low _ _ _ _ hs hbb
    refine ⟨?_, ?_, ?_, by rw [hsz]; exact Nat.le_refl _, fun c hc => other c (by omega)⟩ <;> (unfold World.freeze; rw [if_neg (by decide)])
theorem convSl_ok (K : GlOk P G) (H : HR N σ h w) {s d es : TypeId} {v : SV} {y : Value} (hs : G.ut s = some (.slice es)) (hv : VR σ v y) : ActR G N σ h w (convSl G s d v h) ((do pure (.value (← convert s d y)) : Sem Next).run P w) := by
  unfold convSl
  split
  · rename_i b off len cap sz ex
    split
    · rename_i e hd
      split
      · rename_i he8
        split
        · rename_i k hsd hlen hbb hb
          have hsd' := beq_true.1 hsd
          have hlen' := blt_true.1 hlen
          have hv0 := hv
          simp only [VR] at hv0
          obtain ⟨cb, dd, n, a, c, q1, q2, rfl, q3, q4, q5, q6, q7⟩ := hv0
          have ha : a = ⟨cb, off - dd, none⟩ := by
            rcases q6 with h1 | h1
            · exact h1
            · omega
          subst ha
          obtain ⟨C, te, fz, r1, r2, r3, r4, r5⟩ := H.obj b _ cb dd n hb q1
          obtain ⟨m1, m2⟩ := H.mark hb q1 (ble_true.1 hbb) r1 r2 r4
          refine ⟨σ, .value _, _, w.freeze ⟨cb, n, none⟩ 1, ?_, rfl, Sg.up_refl _ _, m1, hv, m2⟩
          refine run_v ?_
          unfold convert
          have hmk : (markStringish ⟨cb, off - dd, none⟩).run P w = .ok () (w.freeze ⟨cb, n, none⟩ 1) := by
            have hsh : w.shape? cb = some (te, n) := by simp only [World.shape?, r1, r2]
            unfold markStringish
            simp only [Sem.run_bind, run_shape, Result.andThen_ok, hsh, run_freeze]
          have hse : s = d := hsd'
          subst hse
          rw [Sem.run_bind, run_underlying' K hs, Result.andThen_ok, Sem.run_bind, run_underlying' K hd, Result.andThen_ok]
          simp only [Sem.run_bind, run_underlying' K he8, Result.andThen_ok, beq_self_eq_true, hmk, Sem.run_pure]
        · trivial
      · trivial
    · trivial
  · trivial
theorem opE_ok (K : GlOk P G) (H : HR N σ h w) (hT : TmR σ tm nt A) (hg : Glob σ) {o : Oper} : ActR G N σ h w (opE G o.op tm h) ((execOp (rho A) o).run P w) := by
  cases hi : isNew G o.op with
  | true =>
    rcases new_act (tm := tm) (h := h) hi with ⟨v, h', he⟩ | ⟨y, he⟩
    · rw [he]
      obtain ⟨obj, rfl, q⟩ := new_ok (P := P) (nt := nt) K he hi
      exact newR_eff H (q σ A w hT hg (H.fresh _ (Nat.le_refl _)))
    · rw [he]; trivial
  | false =>
    unfold execOp
    cases ho : o.op <;> rw [ho] at hi <;> simp only [opE] <;> (first | (trivial; done) | skip) <;> (try simp only)
    case store t a x =>
      cases he : eStore G t a x tm h with
      | val v h' => exact eStore_ok K H hT hg he
      | fail => trivial
      | _ =>
        exfalso
        unfold eStore at he
        split at he
        · split at he
          · unfold stAt at he
            split at he
            · split at he
              · unfold ofH at he; split at he <;> cases he
              · cases he
            · cases he
          · cases he
        · cases he
    case convert s d x =>
      unfold eConv
      split
      · rename_i v hv
        have hv' := evalQ_ok hT hg hv
        cases hs : G.ut s with
        | none => trivial
        | some D =>
          cases D <;> simp only [convT] <;> first | trivial | skip
          · unfold convNew
            split
            · split
              · rename_i e _ hd
                exfalso
                simp only [isNew, hd, hs, isStrT] at hi
                cases hi
              · trivial
            · trivial
          · exact convSl_ok K H hs hv'
      · trivial
    case mapUpdate t m k x =>
      unfold eMup
      split
      · rename_i m' hm
        split
        · rename_i k' hk
          split
          · rename_i x' hx
            exact ofH_ok fun h' e => mapUpd_ok K H (evalQ_ok hT hg hm) (evalQ_ok hT hg hk) (evalQ_ok hT hg hx) e
          · trivial
        · trivial
      · trivial
    case insert t m k x =>
      unfold eMup
      split
      · rename_i m' hm
        split
        · rename_i k' hk
          split
          · rename_i x' hx
            exact ofH_ok fun h' e => mapUpd_ok K H (evalQ_ok hT hg hm) (evalQ_ok hT hg hk) (evalQ_ok hT hg hx) e
          · trivial
        · trivial
      · trivial
    case mapEntry t m k =>
      unfold eMent
      split
      · rename_i m' hm
        split
        · rename_i k' hk
          refine ofR_ok fun v h' e => ?_
          obtain ⟨yv, w', a, b, c, d⟩ := mapEnt_ok (P := P) K H (evalQ_ok hT hg hm) (evalQ_ok hT hg hk) e
          exact ⟨σ, yv, w', a, (Sg.up_refl _ σ), c, b, d⟩
        · trivial
      · trivial
    case entryStore t m s x =>
      unfold eEst
      split
      · rename_i m' hm
        split
        · rename_i s' hs
          split
          · rename_i x' hx
            exact ofH_ok fun h' e => entStore_ok H (evalQ_ok hT hg hm) (evalQ_ok hT hg hs) (evalQ_ok hT hg hx) e
          · trivial
        · trivial
      · trivial
    case range t x =>
      cases he : eRange G t x tm h with
      | val v h' => exact eRange_ok K H hT hg he
      | fail => trivial
      | _ =>
        exfalso
        unfold eRange at he
        split at he <;> first | (cases he; done) | (unfold rangeM at he; split at he <;> cases he)
    case next it st =>
      have := eNext_ok (P := P) H hT hg (rt := o.type) (rfl : eNext it st tm h = _)
      cases he : eNext it st tm h with
      | val v h' => rw [he] at this; exact this
      | alts l => rw [he] at this; exact this
      | fail => trivial
      | _ =>
        exfalso
        unfold eNext at he
        split at he
        · unfold nextSV at he
          repeat' (split at he <;> (try (cases he; done)))
        · cases he
    case call c => exact eCall_ok K H hT hg
    case defer c => exact eDefer_ok hT hg
    case panic x => exact ePanic_ok hT hg
end
end Go.Ex
