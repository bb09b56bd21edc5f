/- What the operations that make or write memory come to: make, stores, append, copy, literals; texts; calls. No condition. -/
import Derived.Test.YtabcmfkmddlaaaaGe
set_option linter.unusedVariables false
set_option linter.unusedSimpArgs false
namespace Gk
open Go

section
variable {P : Program} {o : Oper} {f : Nat → Value} {w : World} {L : List Value}

theorem stp_of_run {R : Value → World → Prop} {v : Value} {w' : World} (h : (execOp (ev f) o).run P w = .ok (.value v) w') (hr : R v w') : Stp P o f w R := by
  unfold Stp; rw [h]; exact hr
theorem stp_of_skip {R : Value → World → Prop} {w' : World} (h : (execOp (ev f) o).run P w = .ok .skip w') (hr : R undef w') : Stp P o f w R := by
  unfold Stp; rw [h]; exact hr

theorem mem_most {n bytes : Nat} (h : n ≤ most) (hb : bytes ≤ 24) : n * bytes ≤ 140737488355328 ∧ bytes * n ≤ 281474976710656 ∧ n ≤ maxLen := by
  have h1 : n * bytes ≤ 5000000000000 * 24 := Nat.mul_le_mul h hb
  refine ⟨by omega, by rw [Nat.mul_comm]; omega, ?_⟩
  simp only [maxLen]; simp only [most] at h; omega

/-- make([]T, n) -/
theorem stp_make {α : Type} {R : World → List Value → Value → α → Prop} {x y : Operand} {t e : TypeId} {z : Value} {bytes : Nat} {n : Int} {a : α} {l : List α}
    (ho : o.op = .makeSlice t x y) (T : TyS P t e z bytes) (hx : ev f x = i64 n) (hy : ev f y = i64 n) (hl : makeL n a = some l) (hz : ∀ w L, R w L z a)
    {K : Value → World → Prop} (hk : ∀ v w', OwK R w' (v :: L) e v l → Nw w v → w.grownBy w' none → Lift w w' L (v :: L) → K v w') : Stp P o f w K := by
  obtain ⟨i, hi, h1, h2, h3⟩ := info_parts T.info
  unfold makeL at hl
  split at hl
  · rename_i hn
    obtain ⟨hn0, hn1⟩ := hn
    obtain ⟨m, rfl⟩ := Int.eq_ofNat_of_zero_le hn0
    have hm : m ≤ most := by omega
    obtain ⟨b1, b2, b3⟩ := mem_most hm T.fit
    obtain ⟨w', hr, hown, hg⟩ := run_make_full (P := P) w 0 t e i z 1 T.sl hi h1 h2 .i64 .i64 m (by rw [h3]; exact b2) b3 (Nat.zero_le _)
    have hcs : (madeCells z.cells (m * 1)).toList = List.replicate m z := by rw [T.cell, Nat.mul_one, toList_madeCells_one]
    rw [hcs] at hown
    have hv : Nw w (.slice (some ⟨w.heap.size, 0, none⟩) m m) := Nw.mk _ _ _
    refine stp_of_run (w' := w') (v := .slice (some ⟨w.heap.size, 0, none⟩) m m) (by simp [execOp, ho, hx, hy, i64, hr]) (hk _ _ ?_ hv hg (Lift.new L hg hv))
    simp only [Int.toNat_natCast, Option.some.injEq] at hl
    subst hl
    refine ⟨List.replicate m z, Ow.mk (by simp) (by simpa using hown), by simp, fun i a1 a2 => by simpa using hz w' _⟩
  · cases hl

/-- s[i] = x, s owned. -/
theorem stp_store {α : Type} {R : World → List Value → Value → α → Prop} (hR : Stab R) {x y : Operand} {t e : TypeId} {z v u : Value} {bytes : Nat} {i : Int} {a : α} {l l' : List α} (L1 L2 : List Value)
    (ho : o.op = .store e x y) (T : TyS P t e z bytes) (hx : ev f x = adr v i.toNat) (hy : ev f y = u) (h : OwK R w (L1 ++ v :: L2) e v l) (hp : put l i a = some l') (hu : R w (L1 ++ v :: L2) u a) (hc : u.oneCell' = true)
    {K : Value → World → Prop} (hk : ∀ w', OwK R w' (L1 ++ v :: L2) e v l' → Gr w w' v → Lift w w' (L1 ++ v :: L2) (L1 ++ v :: L2) → K undef w') : Stp P o f w K := by
  obtain ⟨i', hi, h1, h2, h3⟩ := info_parts T.info
  obtain ⟨us, hown, hl, he⟩ := h
  obtain ⟨⟨h0, hlt⟩, rfl⟩ := put_some.1 hp
  rcases hown with ⟨_, _, rfl⟩ | ⟨g, cap, hv, hpos, hown⟩
  · simp at hl; omega
  · subst hv
    obtain ⟨hst, hgr0⟩ := World.ownsRow.stored hown i.toNat u
    have hgr : Gr w (w.setCell ⟨g, i.toNat, none⟩ u) (.slice (some ⟨g, 0, none⟩) us.length cap) := Gr.of (by rw [oB_pos hpos]; exact hgr0)
    have hcell := World.ownsRow.cellAt hown i.toNat (by omega)
    have hfr := World.ownsRow.frozenAt hown i.toNat
    have hlift : Lift w (w.setCell ⟨g, i.toNat, none⟩ u) (L1 ++ .slice (some ⟨g, 0, none⟩) us.length cap :: L2) (L1 ++ .slice (some ⟨g, 0, none⟩) us.length cap :: L2) := Lift.own L1 L2 hgr (Nx.refl _ _)
    refine stp_of_skip (w' := w.setCell ⟨g, i.toNat, none⟩ u) ?_ (hk _ ?_ hgr hlift)
    · have hcs : u.cells = #[u] := by cases u <;> simp_all [Value.cells, Value.oneCell']
      have hcl : w.cell? ⟨g, 0 + i.toNat, none⟩ = some (us[i.toNat]'(by omega)) := by rw [Nat.zero_add, hcell]; simp
      simp only [execOp, ho, hx, hy, adr, Instr.storeAt, Instr.sureAddr, storeVar, hcs, add_off, Sem.run_bind, Sem.run_pure, Result.andThen_ok]
      simp [Go.sizeOf, typeInfo, hi, h2, storeCells, add_off, store, Addr.add]
      cases u <;> simp_all [Sem.run, Value.oneCell']
    · refine ⟨us.set i.toNat u, Ow.mk (by simp) (by simpa using hst), by simp [hl], fun j a1 a2 => ?_⟩
      simp only [List.getElem_set]
      split
      · exact hR _ _ _ _ _ _ hlift hu
      · exact hR _ _ _ _ _ _ hlift (he j (by simpa using a1) (by simpa using a2))

theorem appL_some {α : Type} {l m r : List α} : appL l m = some r ↔ l.length + m.length ≤ most ∧ l ++ m = r := by
  unfold appL
  by_cases h : l.length + m.length ≤ most
  · rw [if_pos h]; simp [h]
  · rw [if_neg h]; simp [h]

/-- append: the run. -/
theorem run_app {t ty e : TypeId} {z v x : Value} {bytes : Nat} {us ns : List Value} (T : TyS P t e z bytes) (h : Ow w e v us) (hx : Sl w [] x ns) (h1 : ∀ u ∈ ns, u.oneCell' = true) (hm : us.length + ns.length ≤ most) :
    ∃ v' w', (Builtin.append_ #[t, t] ty #[v, x]).run P w = .ok v' w' ∧ Ow w' e v' (us ++ ns) ∧ Gr w w' v ∧ Nx w v v' ∧ Ow w' e v us := by
  obtain ⟨i, hi, i1, i2, i3⟩ := info_parts T.info
  obtain ⟨p, cap, rfl, hcap, hne⟩ := hx
  have same : ns = [] → ∃ v' w', (Builtin.append_ #[t, t] ty #[v, .slice p ns.length cap]).run P w = .ok v' w' ∧ Ow w' e v' (us ++ ns) ∧ Gr w w' v ∧ Nx w v v' ∧ Ow w' e v us := by
    intro hn
    subst hn
    refine ⟨v, w, ?_, by simpa using h, Gr.refl w v, Nx.refl w v, h⟩
    have hl0 : ∀ (a : Addr), (loadCells a 0).run P w = .ok #[] w := fun a => by simp [loadCells, loadCellsFrom]
    rcases h with ⟨pv, rfl, rfl⟩ | ⟨g, cap', rfl, hc0, h⟩
    · have hst : ∀ a : Addr, (storeCells a []).run P w = .ok () w := fun a => by simp [storeCells]
      cases pv <;> cases p <;> simp [Builtin.append_, run_underlying T.sl, Go.sizeOf, typeInfo, hi, Builtin.lenOf, Builtin.firstCells, hl0, hst]
    · obtain ⟨cur, hg, hc, _⟩ := row_spec h
      have hst : ∀ a : Addr, (storeCells a []).run P w = .ok () w := fun a => by simp [storeCells]
      cases p <;> simp [Builtin.append_, run_underlying T.sl, Go.sizeOf, typeInfo, hi, Builtin.lenOf, Builtin.firstCells, hl0, hc, hst]
  by_cases hn : ns = []
  · exact same hn
  · obtain ⟨b, off, rfl, _, hr⟩ := hne hn
    have hpos : 0 < ns.length := List.length_pos_iff.2 hn
    have hnews : ∀ j u, ns[j]? = some u → w.cell? ((⟨b, off, none⟩ : Addr).add j) = some u := fun j u hj => by
      obtain ⟨hj', rfl⟩ := List.getElem?_eq_some_iff.1 hj
      rw [add_off]; exact hr j hj'
    obtain ⟨b1, b2, b3⟩ := mem_most hm T.fit
    have h63 : ((us.length + ns.length : Nat) : Int) ≤ 9223372036854775807 := by simp only [most] at hm; omega
    have made : ∀ (old : Nat), (w.drew.alloc (.cells (us.toArray ++ ns.toArray ++ Builtin.zeroCells z.cells (grownCap w (us.length + ns.length) old e - (us.length + ns.length))) e)).ownsRow 0 e 1
          (.slice (some ⟨w.heap.size, 0, none⟩) (us.length + ns.length) (grownCap w (us.length + ns.length) old e)) (us.length + ns.length) (us ++ ns) := fun old => by
      have hge := grownCap_ge w (us.length + ns.length) old e
      refine ⟨by simp, .inr ⟨w.heap.size, _, _, rfl, Nat.zero_le _, heap_alloc_new w.drew _, hge, grownCap_le_maxLen w _ old e b3, ?_, ?_⟩⟩
      · simp only [Array.size_append, List.size_toArray, size_zeroCells, T.cell]
        simp; omega
      · simp only [Array.toList_append, List.append_assoc]
        rw [← List.append_assoc]
        exact List.take_left' (by simp)
    have hlen : (us ++ ns).length = us.length + ns.length := by simp
    have hnxn : ∀ (v : Value) (n c : Nat), Nx w v (.slice (some ⟨w.heap.size, 0, none⟩) n c) := fun v n c => (Nw.mk w n c).nx v
    rcases h with ⟨pv, rfl, rfl⟩ | ⟨g, cap', rfl, hc0, h⟩
    · cases pv with
      | some av =>
        have hr := run_append_grow (P := P) w t ty e i z T.sl hi i1 av 0 0 [] (by simp) (fun j u hj => by simp at hj) ⟨b, off, none⟩ ns.length cap ns (by rw [i2]; simp) hnews (by omega) (by simpa using h63) (by rw [i3]; exact growslice_fits (by omega) (by simpa using b1))
        have hmk := made 0
        exact ⟨_, _, hr, Ow.mk (by simp) hmk, Gr.of ⟨rfl, rfl, rfl, by simp, fun k hk _ => alloc_old w.drew _ k hk⟩, hnxn _ _ _, .inl ⟨_, rfl, rfl⟩⟩
      | none =>
      have hr := run_append_nil (P := P) w t ty e i z T.sl hi i1 ⟨b, off, none⟩ ns.length cap ns (by rw [i2]; simp) hnews hpos (by simpa using h63) (by rw [i3]; simp only [List.length_nil, Nat.zero_add] at b1; omega)
      have hmk := made 0
      simp only [List.length_nil, Nat.zero_add, List.nil_append, Array.empty_append] at hmk ⊢
      exact ⟨_, _, hr, Ow.mk rfl hmk, Gr.of ⟨rfl, rfl, rfl, by simp, fun k hk _ => alloc_old w.drew _ k hk⟩, hnxn _ _ _, .inl ⟨_, rfl, rfl⟩⟩
    · obtain ⟨cur, hg, hc, hcm, hcs, htake⟩ := row_spec h
      by_cases hroom : us.length + ns.length ≤ cap'
      · have hfit : us.length * i.size + ns.length ≤ cur.size := by rw [hcs, i2]; omega
        have hr := run_append_room (P := P) w t ty e i T.sl hi g us.length cap' cur hg ⟨b, off, none⟩ ns.length cap ns (by rw [i2]; simp) hnews h1 hroom hfit
        refine ⟨_, _, hr, Ow.mk hlen.symm ⟨by simp, .inr ⟨g, cap', _, rfl, Nat.zero_le _, setRow_heap w g cur _ e _ hg, hroom, hcm, ?_, ?_⟩⟩,
          Gr.of ⟨rfl, rfl, rfl, by simp, fun k _ hk => setRow_other w g k _ (fun e => hk (by rw [oB_pos hc0, e]))⟩, fun k hk => .inl (.inl (by have := hs_sl hk; rw [oB_pos hc0] at *; exact this)),
          .inr ⟨g, cap', rfl, hc0, by simp, .inr ⟨g, cap', _, rfl, Nat.zero_le _, setRow_heap w g cur _ e _ hg, hc, hcm, ?_, ?_⟩⟩⟩
        · simp only [List.size_toArray, List.length_append, List.length_take, List.length_drop, Array.length_toList, i2]
          omega
        · rw [i2, htake]
          exact List.take_left' (by simp)
        · simp only [List.size_toArray, List.length_append, List.length_take, List.length_drop, Array.length_toList, i2]
          omega
        · rw [i2, htake, List.append_assoc]
          exact List.take_left' (by simp)
      · have holds : ∀ j u, us[j]? = some u → w.cell? ((⟨g, 0, none⟩ : Addr).add j) = some u := World.ownsRow.cells h (g := g) rfl
        have hr := run_append_grow (P := P) w t ty e i z T.sl hi i1 ⟨g, 0, none⟩ us.length cap' us (by rw [i2]; simp) holds ⟨b, off, none⟩ ns.length cap ns (by rw [i2]; simp) hnews (by omega) h63 (by rw [i3]; exact growslice_fits (by omega) b1)
        exact ⟨_, _, hr, Ow.mk hlen.symm (made cap'), Gr.of ⟨rfl, rfl, rfl, by simp, fun k hk _ => alloc_old w.drew _ k hk⟩, hnxn _ _ _,
          Ow.kept (row := none) (.inr ⟨g, cap', rfl, hc0, h⟩) ⟨rfl, rfl, rfl, by simp, fun k hk _ => alloc_old w.drew _ k hk⟩ (fun _ _ e => by cases e)⟩

/-- append(s, x...), s owned; what it was is there still. -/
theorem stp_append2 {α : Type} {R : World → List Value → Value → α → Prop} (hR : Stab R) {s x : Operand} {t e : TypeId} {z v u : Value} {bytes : Nat} {l m r : List α} (L1 L2 : List Value)
    (ho : o.op = .call ⟨.builtin .append, #[s, x], #[t, t]⟩) (T : TyS P t e z bytes) (hs : ev f s = v) (hx : ev f x = u) (h : OwK R w (L1 ++ v :: L2) e v l) {Lu : List Value} (hu : SlK R w Lu u m) (hLu : ∀ u x, R w Lu u x → R w (L1 ++ v :: L2) u x) (hm : appL l m = some r) (h1 : ∀ w L u x, R w L u x → u.oneCell' = true)
    {K : Value → World → Prop} (hk : ∀ v' w', OwK R w' (L1 ++ v' :: L2) e v' r → Gr w w' v → Nx w v v' → Lift w w' (L1 ++ v :: L2) (L1 ++ v' :: L2) → OwK R w' (L1 ++ v' :: L2) e v l → K v' w') : Stp P o f w K := by
  obtain ⟨us, hown, hl, he⟩ := h
  obtain ⟨ns, hsl, hl', he0⟩ := hu
  have he' : ∀ i (h : i < ns.length) (h' : i < m.length), R w (L1 ++ v :: L2) ns[i] m[i] := fun i a b => hLu _ _ (he0 i a b)
  obtain ⟨hmost, rfl⟩ := appL_some.1 hm
  have hsl0 : Sl w [] u ns := hsl.lift (Lift.sub (fun _ _ => trivial))
  obtain ⟨v', w', hr, h2, h3, h4, h5⟩ := run_app (ty := o.type) T hown hsl0 (fun a ha => by
    obtain ⟨j, hj, rfl⟩ := List.getElem_of_mem ha
    exact h1 _ _ _ _ (he' j hj (by omega))) (by omega)
  have hlift := Lift.own L1 L2 h3 h4
  refine stp_of_run (v := v') (w' := w') ?_ (hk _ _ ⟨us ++ ns, h2, by simp [hl, hl'], fun i a1 a2 => ?_⟩ h3 h4 hlift ⟨us, h5, hl, fun i a1 a2 => hR _ _ _ _ _ _ hlift (he i a1 a2)⟩)
  · rw [exec_builtin _ ho]
    simp [builtin, hs, hx, hr]
  · by_cases hi : i < us.length
    · rw [List.getElem_append_left hi, List.getElem_append_left (by omega)]
      exact hR _ _ _ _ _ _ hlift (he i hi (by omega))
    · rw [List.getElem_append_right (by omega), List.getElem_append_right (by omega)]
      have := he' (i - us.length) (by simp at a1; omega) (by simp at a2; omega)
      simp only [hl] at this ⊢
      exact hR _ _ _ _ _ _ hlift this
/-- append(s, x...), s owned. -/
theorem stp_append {α : Type} {R : World → List Value → Value → α → Prop} (hR : Stab R) {s x : Operand} {t e : TypeId} {z v u : Value} {bytes : Nat} {l m r : List α} (L1 L2 : List Value)
    (ho : o.op = .call ⟨.builtin .append, #[s, x], #[t, t]⟩) (T : TyS P t e z bytes) (hs : ev f s = v) (hx : ev f x = u) (h : OwK R w (L1 ++ v :: L2) e v l) {Lu : List Value} (hu : SlK R w Lu u m) (hLu : ∀ u x, R w Lu u x → R w (L1 ++ v :: L2) u x) (hm : appL l m = some r) (h1 : ∀ w L u x, R w L u x → u.oneCell' = true)
    {K : Value → World → Prop} (hk : ∀ v' w', OwK R w' (L1 ++ v' :: L2) e v' r → Gr w w' v → Nx w v v' → Lift w w' (L1 ++ v :: L2) (L1 ++ v' :: L2) → K v' w') : Stp P o f w K := by
  refine stp_append2 hR L1 L2 ho T hs hx h hu hLu hm h1 fun v' w' a b c d _ => hk v' w' a b c d
theorem fill_seq (us : List Value) : ∀ (k : Nat) (cells : List Value), k + us.length ≤ cells.length → (∀ u ∈ us, u.cells = #[u]) →
    Instr.fill (fun i => some (i * 1, 1)) cells.toArray ((us.zipIdx k).map fun p => (p.2, p.1)) = some (cells.take k ++ us ++ cells.drop (k + us.length)).toArray := by
  induction us with
  | nil => intro k cells hk _; simp [Instr.fill]
  | cons u us ih =>
    intro k cells hk hu
    have hc := hu u (by simp)
    simp only [List.length_cons] at hk
    simp only [List.zipIdx_cons, List.map_cons, Instr.fill, Nat.mul_one, hc]
    rw [if_neg (by simp; omega)]
    have hset : ((#[u] : Array Value).zipIdx.foldl (fun cs (c, j) => cs.setIfInBounds (k + j) c) cells.toArray) = (cells.set k u).toArray := by simp [Array.zipIdx]
    rw [hset]
    have := ih (k + 1) (cells.set k u) (by simp; omega) (fun x hx => hu x (by simp [hx]))
    simp only [Nat.mul_one] at this
    rw [this]
    congr 2
    rw [list_seg_step]
    · simp [Nat.add_assoc, Nat.add_comm 1]
    · simpa using hk

/-- The parts of a literal, one by one. -/
def Parts (f : Nat → Value) : List (Nat × Operand) → Nat → List Value → Prop
  | [], _, [] => True
  | (i, x) :: r, k, u :: us => i = k ∧ ev f x = u ∧ Parts f r (k + 1) us
  | _, _, _ => False
theorem Parts.eq {f : Nat → Value} : ∀ (l : List (Nat × Operand)) (k : Nat) (us : List Value), Parts f l k us → (l.map fun (i, x) => (i, ev f x)) = (us.zipIdx k).map fun p => (p.2, p.1)
  | [], _, [], _ => rfl
  | (i, x) :: r, k, u :: us, h => by
    obtain ⟨rfl, rfl, h⟩ := h
    simp [Parts.eq r (i + 1) us h]

/-- A literal slice. -/
theorem stp_lit {α : Type} {R : World → List Value → Value → α → Prop} {t e : TypeId} {z : Value} {bytes : Nat} {n : Nat} {parts : List (Nat × Operand)} (us : List Value) (l : List α)
    (ho : o.op = .buildSlice t n parts.toArray) (T : TyS P t e z bytes) (hn : Nat.ble n 16777216 = true) (hp : Parts f parts 0 us) (hl : us.length = n) (hc : ∀ u ∈ us, u.cells = #[u]) (hl' : us.length = l.length)
    (hu : ∀ w' L', Lift w w' L L' → ∀ i (h : i < us.length) (h' : i < l.length), R w' L' us[i] l[i])
    {K : Value → World → Prop} (hk : ∀ v w', OwK R w' (v :: L) e v l → Nw w v → w.grownBy w' none → Lift w w' L (v :: L) → K v w') : Stp P o f w K := by
  obtain ⟨i, hi, i1, i2, i3⟩ := info_parts T.info
  have hn' : n ≤ 16777216 := Nat.le_of_ble_eq_true hn
  have hlim : ¬ (16777216 < n) := by omega
  have hparts : (parts.toArray.map fun (i, x) => (i, ev f x)).toList = (us.zipIdx 0).map fun p => (p.2, p.1) := by
    rw [← Parts.eq parts 0 us hp]; simp
  have hrun : (Instr.buildSlice t n (parts.toArray.map fun (i, x) => (i, ev f x))).run P w = .ok (.slice (some ⟨w.heap.size, 0, none⟩) n n) (w.alloc (.cells us.toArray e)) := by
    have hfill : ∀ cells : List Value, cells.length = n → Instr.fill (fun i => some (i, 1)) cells.toArray ((us.zipIdx 0).map fun p => (p.2, p.1)) = some us.toArray := fun cells hcl => by
      have := fill_seq us 0 cells (by omega) hc
      simp only [Nat.mul_one] at this
      rw [this]
      simp [List.drop_eq_nil_of_le (show cells.length ≤ us.length by omega)]
    unfold Instr.buildSlice
    simp only [Sem.run_bind, run_underlying T.sl, Result.andThen_ok, ty_size T, Nat.mul_one, hparts]
    rw [if_neg hlim]
    by_cases h0 : n = 0
    · subst h0
      have hus : us = [] := List.eq_nil_of_length_eq_zero hl
      subst hus
      have hr0 : Array.range 0 = #[] := rfl
      simp [newRow, newObj, Sem.run, Instr.fill, hr0]
    · have hz : (zeroValue e).run P w = .ok z w := by simp [zeroValue, typeInfo, hi, i1]
      have hf2 := hfill ((List.range n).map (fun i => (#[z])[i % 1]!)) (by simp)
      have hf3 : Instr.fill (fun i => some (i, 1)) (Array.map (fun i => (#[z])[i % 1]!) (Array.range n)) ((us.zipIdx 0).map fun p => (p.2, p.1)) = some us.toArray := by
        rw [← hf2]; congr 1
        apply Array.ext'
        simp
      have hf4 : Instr.fill (fun i => some (i, 1)) (Array.map (fun x => (#[z])[x % (#[z] : Array Value).size]!) (Array.range n)) ((us.zipIdx 0).map fun p => (p.2, p.1)) = some us.toArray := hf3
      simp only [h0, if_false, Sem.run_bind, hz, T.cell, Result.andThen_ok, Sem.run_pure, hf4]
      simp [newRow, newObj, Sem.run]
  have hv : Nw w (.slice (some ⟨w.heap.size, 0, none⟩) n n) := Nw.mk _ _ _
  have hg := World.grownBy_alloc w (.cells us.toArray e) none
  refine stp_of_run (v := .slice (some ⟨w.heap.size, 0, none⟩) n n) (w' := w.alloc (.cells us.toArray e)) ?_ (hk _ _ ⟨us, ?_, hl', hu _ _ (Lift.new L hg hv)⟩ hv hg (Lift.new L hg hv))
  · simp only [execOp, ho, Sem.run_bind, hrun, Result.andThen_ok, Sem.run_pure]
  · have := World.ownsRow_lit (e := e) (size := 1) w us.toArray n (Nat.zero_le _) (by simp only [maxLen]; omega) (by simp [hl])
    exact Ow.mk hl.symm (by simpa using this)


/-- Element by element. -/
def Rl {α : Type} (R : Value → α → Prop) (us : List Value) (l : List α) : Prop := us.length = l.length ∧ ∀ i (h : i < us.length) (h' : i < l.length), R us[i] l[i]
theorem Rl.take {α : Type} {R : Value → α → Prop} {us : List Value} {l : List α} (h : Rl R us l) (n : Nat) : Rl R (us.take n) (l.take n) :=
  ⟨by simp [h.1], fun i a b => by simp only [List.getElem_take]; exact h.2 i _ _⟩
theorem Rl.drop {α : Type} {R : Value → α → Prop} {us : List Value} {l : List α} (h : Rl R us l) (n : Nat) : Rl R (us.drop n) (l.drop n) :=
  ⟨by simp [h.1], fun i a b => by simp only [List.getElem_drop]; exact h.2 _ _ _⟩
theorem Rl.append {α : Type} {R : Value → α → Prop} {us vs : List Value} {l m : List α} (h : Rl R us l) (k : Rl R vs m) : Rl R (us ++ vs) (l ++ m) := by
  refine ⟨by simp [h.1, k.1], fun i a b => ?_⟩
  have h1 := h.1
  by_cases hi : i < us.length
  · rw [List.getElem_append_left hi, List.getElem_append_left (by omega)]; exact h.2 i _ _
  · rw [List.getElem_append_right (by omega), List.getElem_append_right (by omega)]
    have := k.2 (i - us.length) (by simp at a; omega) (by simp at b; omega)
    simp only [h1] at this ⊢
    exact this

theorem splice_take {α : Type} (cur nt : List α) (n k : Nat) (h : k + nt.length ≤ n) (hn : n ≤ cur.length) :
    (cur.take k ++ nt ++ cur.drop (k + nt.length)).take n = (cur.take n).take k ++ (nt ++ (cur.take n).drop (k + nt.length)) := by
  apply List.ext_getElem?
  intro j
  rw [List.getElem?_take]
  by_cases hj : j < n
  · rw [if_pos hj]
    by_cases hjk : j < k
    · rw [List.append_assoc, List.getElem?_append_left (by simp; omega), List.getElem?_append_left (by simp; omega)]
      rw [List.getElem?_take, if_pos hjk, List.getElem?_take, if_pos hjk, List.getElem?_take, if_pos hj]
    · have e1 : (cur.take k).length = k := by simp; omega
      have e2 : ((cur.take n).take k).length = k := by simp; omega
      rw [List.append_assoc, List.getElem?_append_right (l₁ := cur.take k) (by omega), List.getElem?_append_right (l₁ := (cur.take n).take k) (by omega), e1, e2]
      by_cases hj2 : j - k < nt.length
      · rw [List.getElem?_append_left hj2, List.getElem?_append_left hj2]
      · rw [List.getElem?_append_right (by omega), List.getElem?_append_right (by omega), List.getElem?_drop, List.getElem?_drop, List.getElem?_take, if_pos (by omega)]
  · rw [if_neg hj, List.getElem?_eq_none]
    simp; omega

/-- copy(s[off:], x), s owned: 's[off:]' by the first address and the length of what is left. -/
theorem stp_copy {α : Type} {R : World → List Value → Value → α → Prop} (hR : Stab R) {d x : Operand} {t e : TypeId} {z v dv u : Value} {bytes : Nat} {l m : List α} {off : Int} (L1 L2 : List Value)
    (ho : o.op = .call ⟨.builtin .copy, #[d, x], #[t, t]⟩) (T : TyS P t e z bytes) (hd : ev f d = dv) (hx : ev f x = u) (h : OwK R w (L1 ++ v :: L2) e v l)
    (hdv : dv = subV v off.toNat l.length) (h0 : 0 ≤ off) (hoff : off ≤ l.length)
    {Lu : List Value} (hu : SlK R w Lu u m) (hLu : ∀ u x, R w Lu u x → R w (L1 ++ v :: L2) u x) (h1 : ∀ w L u x, R w L u x → u.oneCell' = true)
    {K : Value → World → Prop} (hk : ∀ w', OwK R w' (L1 ++ v :: L2) e v (copyL l off m) → Gr w w' v → Lift w w' (L1 ++ v :: L2) (L1 ++ v :: L2) → K (i64 (min m.length (l.length - off.toNat) : Nat)) w') : Stp P o f w K := by
  obtain ⟨us, hown, hl, he⟩ := h
  obtain ⟨ns, ⟨p, cap, hp, hcap, hne⟩, hl', he0⟩ := hu
  have he' : ∀ i (h : i < ns.length) (h' : i < m.length), R w (L1 ++ v :: L2) ns[i] m[i] := fun i a b => hLu _ _ (he0 i a b)
  obtain ⟨i, hi, i1, i2, i3⟩ := info_parts T.info
  have hsz : (P.info? e).map (·.size) = some 1 := by rw [hi]; simp [i2]
  obtain ⟨k, rfl⟩ := Int.eq_ofNat_of_zero_le h0
  simp only [Int.toNat_natCast] at *
  have hkl : k ≤ us.length := by omega
  have hmin : Nat.min ns.length (us.length - k) = min m.length (l.length - k) := by rw [hl, hl']
  by_cases hz : Nat.min ns.length (us.length - k) = 0
  · have hrun : (Builtin.copy_ #[t, t] o.type #[dv, u]).run P w = .ok (goInt 0) w := by
      rcases hown with ⟨pv, rfl, rfl⟩ | ⟨g, cap', rfl, hc0, hown⟩
      · subst hdv; subst hp
        cases pv <;> exact run_copy_none (P := P) w t t o.type e _ _ _ _ _ _ T.sl hsz (by rw [← hl]; exact hz)
      · subst hdv; subst hp
        exact run_copy_none (P := P) w t t o.type e _ _ _ _ _ _ T.sl hsz (by rw [← hl]; exact hz)
    refine stp_of_run (v := goInt 0) (w' := w) (by rw [exec_builtin _ ho]; simp [builtin, hd, hx, hrun]) ?_
    have hk' := hk w ⟨us, hown, ?_, ?_⟩ (Gr.refl w _) (Lift.sub (fun _ h => h))
    · rw [show min m.length (l.length - k) = 0 by omega] at hk'
      exact hk'
    · have h2 : min m.length (l.length - k) = 0 := by omega
      simp only [copyL, Int.toNat_natCast, List.length_append, List.length_take, List.length_drop]; omega
    · have : copyL l (k : Int) m = l := by
        unfold copyL
        simp only [Int.toNat_natCast]
        have h2 : min m.length (l.length - k) = 0 := by omega
        rw [h2]
        rcases Nat.eq_zero_or_pos (l.length - k) with h3 | h3
        · rw [h3]; simp
        · have : m.length = 0 := by omega
          rw [List.eq_nil_of_length_eq_zero this]; simp
      rw [this]
      exact he
  · have hpos : 0 < Nat.min ns.length (us.length - k) := Nat.pos_of_ne_zero hz
    have hns0 : 0 < ns.length := by have := Nat.min_le_left ns.length (us.length - k); omega
    have hus0 : 0 < us.length - k := by have := Nat.min_le_right ns.length (us.length - k); omega
    obtain ⟨b, so, rfl, _, hr⟩ := hne (List.length_pos_iff.1 hns0)
    rcases hown with ⟨pv, rfl, rfl⟩ | ⟨g, cap', rfl, hc0, hown⟩
    · simp at hus0
    · obtain ⟨cur, hg, hc, hcm, hcs, htake⟩ := row_spec hown
      have hn : (ns.take (us.length - k)).length = Nat.min ns.length (us.length - k) := by simp; exact Nat.min_comm _ _
      have hadr : dv = .slice (some ⟨g, k, none⟩) (us.length - k) (cap' - k) := by
        rw [hdv, ← hl]; simp only [subV]; rw [if_neg (by omega)]; simp [add_off]
      have hrun := run_copy_row (P := P) w t t o.type e g k (us.length - k) (cap' - k) ⟨b, so, none⟩ ns.length cap cur e (ns.take (us.length - k)) T.sl hsz hg hn
        (fun j v hj => by
          obtain ⟨hj', rfl⟩ := List.getElem?_eq_some_iff.1 hj
          rw [add_off, hr j (by simp at hj'; omega)]; simp)
        (by rw [hn, hcs]; have := Nat.min_le_right ns.length (us.length - k); omega)
        (fun a ha => by
          obtain ⟨j, hj, rfl⟩ := List.getElem_of_mem ha
          simp only [List.getElem_take]
          exact h1 _ _ _ _ (he' j (by simp at hj; omega) (by simp at hj; omega)))
      generalize hw' : w.setRow g (cur.toList.take k ++ ns.take (us.length - k) ++ cur.toList.drop (k + (ns.take (us.length - k)).length)).toArray = w' at hrun
      have hgr : Gr w w' (.slice (some ⟨g, 0, none⟩) us.length cap') := Gr.of (by rw [oB_pos hc0]; rw [← hw']; exact ⟨rfl, rfl, rfl, by simp, fun j _ hj => setRow_other w g j _ (fun e => hj (by rw [e]))⟩)
      have hlift : Lift w w' (L1 ++ .slice (some ⟨g, 0, none⟩) us.length cap' :: L2) (L1 ++ .slice (some ⟨g, 0, none⟩) us.length cap' :: L2) := Lift.own L1 L2 hgr (Nx.refl _ _)
      have hnew : (us.take k ++ (ns.take (us.length - k) ++ us.drop (k + (ns.take (us.length - k)).length))).length = us.length := by
        simp; omega
      refine stp_of_run (v := goInt (ns.take (us.length - k)).length) (w' := w') (by rw [exec_builtin _ ho]; simp [builtin, hd, hx, hadr, hp, hrun]) ?_
      have hk' := hk w' ⟨us.take k ++ (ns.take (us.length - k) ++ us.drop (k + (ns.take (us.length - k)).length)), ?_, ?_, ?_⟩ hgr hlift
      · rw [← hmin, ← hn] at hk'; exact hk'
      · refine Ow.mk hnew.symm ⟨by simpa using hnew, .inr ⟨g, cap', _, rfl, Nat.zero_le _, by rw [← hw']; exact setRow_heap w g cur _ e _ hg, hc, hcm, ?_, ?_⟩⟩
        · simp only [List.size_toArray, List.length_append, List.length_take, List.length_drop, Array.length_toList, hcs]
          omega
        · have hl1 : (ns.take (us.length - k)).length ≤ us.length - k := by simp; omega
          simp only [Nat.mul_one] at htake ⊢
          rw [splice_take cur.toList _ us.length k (by omega) (by have h9 : cur.toList.length = cur.size := Array.length_toList; simp at hcs; omega), htake]
      · simp [copyL]; omega
      · have r1 : Rl (R w' (L1 ++ .slice (some ⟨g, 0, none⟩) us.length cap' :: L2)) us l := ⟨hl, fun i h h' => hR _ _ _ _ _ _ hlift (he i h h')⟩
        have r2 : Rl (R w' (L1 ++ .slice (some ⟨g, 0, none⟩) us.length cap' :: L2)) ns m := ⟨hl', fun i h h' => hR _ _ _ _ _ _ hlift (he' i h h')⟩
        have r3 := (r1.take k).append ((r2.take (us.length - k)).append (r1.drop (k + (ns.take (us.length - k)).length)))
        have e5 : min m.length (us.length - k) = (ns.take (us.length - k)).length := by simp [hl']; exact Nat.min_comm _ _
        have e4 : copyL l (k : Int) m = l.take k ++ (m.take (us.length - k) ++ l.drop (k + (ns.take (us.length - k)).length)) := by
          unfold copyL; simp only [Int.toNat_natCast, ← hl, e5]
        rw [e4]
        exact r3.2

/-! ### Texts -/
theorem q_str {x : Operand} {t d e : TypeId} {z v : Value} {bytes : Nat} {l : List UInt8} (ho : o.op = .convert t d x) (T : TyS P t e z bytes) (hd : P.underlying d = some .string) (he : P.underlying e = some (.int .u8)) (hx : ev f x = v) (h : By w L v l) : Qt P o f w (str l) := by
  intro w' hx'
  obtain ⟨us, ⟨p, cap, hv, hc, hne⟩, hl, hr⟩ := h
  have hus : us = l.map u8 := List.ext_getElem (by simp [hl]) fun i a1 a2 => by have := hr i a1 (by simpa using a2); simpa [Sc] using this
  subst hv
  have hrun : (convert t d (.slice p us.length cap)).run P w' = .ok (str l) w' := by
    by_cases hn : us = []
    · subst hn
      have hl0 : l = [] := List.eq_nil_of_length_eq_zero (by simpa using hl.symm)
      subst hl0
      cases p with
      | none => exact run_convert_bytes_nil w' t e T.sl he _ _ d hd
      | some a => exact run_convert_bytes_back w' t d e a cap [] T.sl he hd (fun j hj => by simp at hj)
    · obtain ⟨b, off, rfl, _, hr⟩ := hne hn
      rw [show us.length = l.length from hl]
      refine run_convert_bytes_back w' t d e _ cap l T.sl he hd fun j hj => ?_
      have hc := hr j (by omega)
      rw [add_off, World.cell?_of_block (w := w) (hx'.blk b (World.block_lt_of_cell? w _ hc)), hc]
      simp [hus, u8]
  simp [execOp, ho, hx, hrun]

theorem q_eqS {x y : Operand} {t t' : TypeId} {a b : List UInt8} (ho : o.op = .binOp .eql t x y t') (hx : ev f x = str a) (hy : ev f y = str b) : Qa P o f (.bool (decide (a = b))) := by
  intro w
  have h : (a == b) = decide (a = b) := by rw [Bool.eq_iff_iff]; simp
  simp [execOp, ho, hx, hy, str, eqGuard, binOp, Op.stringOp, h]
theorem q_neS {x y : Operand} {t t' : TypeId} {a b : List UInt8} (ho : o.op = .binOp .neq t x y t') (hx : ev f x = str a) (hy : ev f y = str b) : Qa P o f (.bool (!decide (a = b))) := by
  intro w
  have h : (a == b) = decide (a = b) := by rw [Bool.eq_iff_iff]; simp
  simp [execOp, ho, hx, hy, str, eqGuard, binOp, Op.stringOp, bne]
  simp [h]

/-! ### Calls -/
theorem enters {g : FuncId} {fn : Func} (hf : P.funcs[g]? = some fn) (hn : (fn.name == "runtime.NumGoroutine") = false) (hb : fn.body.isNone = false) (args : Array Value) (w : World) : (callFunc g args).run P w = .ok (.enter g args) w := by
  have hn' : ¬ (fn.name = "runtime.NumGoroutine") := by intro e; rw [e] at hn; simp at hn
  have hb' : ¬ (fn.body = none) := by intro e; rw [e] at hb; simp at hb
  simp [callFunc, Sem.run_bind, program, Sem.run, hf, hn', hb']

theorem stp_call {g : FuncId} {fn : Func} {xs : Array Operand} {ats : Array TypeId} {vs : List Value} {R' : Ending → World → Prop} (hf : P.funcs[g]? = some fn) (hn : (fn.name == "runtime.NumGoroutine") = false) (hb : fn.body.isNone = false)
    (ho : o.op = .call ⟨.value (.func g), xs, ats⟩) (hx : xs.toList.map (ev f) = vs) (hc : Calls P g vs.toArray w R') {K : Value → World → Prop} (hk : ∀ e w', R' e w' → ∃ v, e = .returned v ∧ K v w') : Stp P o f w K := by
  have hxs : xs.map (ev f) = vs.toArray := by subst hx; apply Array.ext'; simp
  unfold Stp
  have : (execOp (ev f) o).run P w = .ok (.enter g vs.toArray) w := by
    have h1 := enters (P := P) hf hn hb vs.toArray w
    unfold execOp
    rw [ho]
    dsimp only
    simp only [resolve, ev, Deferred.ofValue, hxs, Sem.run_bind, Sem.run_pure, Result.andThen_ok, invoke]
    simpa using h1
  rw [this]
  exact hc.mono hk
end
end Gk
