/- append of noughts (append(s, make(..)...)); slices.Grow on nothing; slices.Concat. No condition but the length. -/
import Derived.Test.YtabcmfkmddlaaaaS
import Derived.Test.YtabcmfkmddlaaaaGn
import Derived.Lib.AppendZerosOnto
set_option linter.unusedVariables false
set_option linter.unusedSimpArgs false
namespace Gk
open Go Go.Proofs
section
variable {P : Program} {o : Oper} {f : Nat → Value} {w : World} {L : List Value}
theorem q_cap {α : Type} {R : World → List Value → Value → α → Prop} {p : Option Addr} {n c : Nat} {x : Operand} {t e : TypeId}
    (ho : o.op = .call ⟨.builtin .cap, #[x], #[t]⟩) (ht : P.underlying t = some (.slice e)) (hx : ev f x = .slice p n c) : Qa P o f (i64 c) := by
  intro w'
  rw [exec_builtin _ ho]
  simp [builtin, Builtin.cap_, run_underlying ht, hx, goInt, i64]
theorem zeroCells_one {z : Value} (hz : z.cells = #[z]) (n : Nat) : (Builtin.zeroCells z.cells n).toList = List.replicate n z := by
  apply List.ext_getElem?
  intro i
  simp only [Builtin.zeroCells, hz]
  by_cases h : i < n
  · simp [h, Nat.mod_one]
  · simp [h]
/-- append(s, make([]T, n)...): the run. -/
theorem run_appz {t tn ty e : TypeId} {z v : Value} {bytes : Nat} {us : List Value} (T : TyS P t e z bytes) (htn : P.underlying tn = some (.int .i64)) (h1 : z.oneCell' = true) (h : Ow w e v us) (n : Nat) (hm : us.length + n ≤ most) :
    ∃ v' w', (Builtin.append_ #[t, tn] ty #[v, i64 n]).run P w = .ok v' w' ∧ Ow w' e v' (us ++ List.replicate n z) ∧ Gr w w' v ∧ Nx w v v' := by
  obtain ⟨i, hi, i1, i2, i3⟩ := info_parts T.info
  obtain ⟨b1, b2, b3⟩ := mem_most hm T.fit
  obtain ⟨c1, c2, c3⟩ := mem_most (show n ≤ most by omega) T.fit
  have h63 : ((us.length + n : Nat) : Int) ≤ 9223372036854775807 := by simp only [most] at hm; omega
  have hw : IntKind.i64.wrap (n : Int) = n := by rw [IntKind.wrap_i64]; simp only [most] at hm; omega
  have h48i : ¬ (281474976710656 < (n : Int) * (i.bytes : Int)) := by rw [← Int.natCast_mul, i3]; omega
  have hneg : ¬ ((n : Int) < 0) := by omega
  have made : ∀ (old : Nat), (w.drew.alloc (.cells (us.toArray ++ Builtin.zeroCells z.cells n ++ Builtin.zeroCells z.cells (grownCap w (us.length + n) old e - (us.length + n))) e)).ownsRow 0 e 1
        (.slice (some ⟨w.heap.size, 0, none⟩) (us.length + n) (grownCap w (us.length + n) old e)) (us.length + n) (us ++ List.replicate n z) := fun old => by
    have hge := grownCap_ge w (us.length + n) old e
    refine ⟨by simp, .inr ⟨w.heap.size, _, _, rfl, Nat.zero_le _, heap_alloc_new w.drew _, hge, grownCap_le_maxLen w _ old e b3, ?_, ?_⟩⟩
    · simp only [Array.size_append, List.size_toArray, size_zeroCells, T.cell]
      simp; omega
    · simp only [Array.toList_append, zeroCells_one T.cell]
      exact List.take_left' (by simp)
  have hlen : (us ++ List.replicate n z).length = us.length + n := by simp
  have hnxn : ∀ (v : Value) (n c : Nat), Nx w v (.slice (some ⟨w.heap.size, 0, none⟩) n c) := fun v n c => (Nw.mk w n c).nx v
  by_cases hn : n = 0
  · subst hn
    refine ⟨v, w, ?_, by simpa using h, Gr.refl w v, Nx.refl w v⟩
    have hw0 : IntKind.i64.wrap 0 = 0 := by rw [IntKind.wrap_i64]; rfl
    rcases h with ⟨pv, rfl, rfl⟩ | ⟨g, cap', rfl, hc0, h⟩
    · cases pv <;> simp [Builtin.append_, run_underlying T.sl, run_underlying htn, Go.sizeOf, typeInfo, hi, i64, asInt, asIntOf, storeCells, hw0]
    · obtain ⟨cur, hg, hc, _⟩ := row_spec h
      simp [Builtin.append_, run_underlying T.sl, run_underlying htn, Go.sizeOf, typeInfo, hi, i64, asInt, asIntOf, storeCells, hw0, hc]
  · rcases h with ⟨pv, rfl, rfl⟩ | ⟨g, cap', rfl, hc0, h⟩
    · have hold : (Builtin.firstCells i.size 0 (.slice pv 0 0)).run P w.drew = .ok ([] : List Value).toArray w.drew := by
        cases pv <;> simp [Builtin.firstCells, loadCells, loadCellsFrom]
      have hr := Lib.run_append_grow_zeros (P := P) w t tn ty e i z .i64 .i64 T.sl htn hi i1 pv 0 0 [] hold n (by omega) (by omega) (by omega) (by simpa using h63) (by rw [i3]; rw [Nat.mul_comm]; exact c2) (by rw [i3]; exact growslice_fits (by omega) (by simpa using b1))
      have hmk := made 0
      exact ⟨_, _, hr, Ow.mk (by simp) hmk, Gr.of ⟨rfl, rfl, rfl, by simp, fun k hk _ => alloc_old w.drew _ k hk⟩, hnxn _ _ _⟩
    · obtain ⟨cur, hg, hc, hcm, hcs, htake⟩ := row_spec h
      by_cases hroom : us.length + n ≤ cap'
      · have hst := run_storeCells_at P g us.length e (List.replicate n z) 0 cur w hg (by rw [hcs]; simp; omega) (fun v hv => by rw [(List.mem_replicate.1 hv).2]; exact h1)
        have hr : (Builtin.append_ #[t, tn] ty #[.slice (some ⟨g, 0, none⟩) us.length cap', i64 n]).run P w = .ok (.slice (some ⟨g, 0, none⟩) (us.length + n) cap') (w.setRow g (cur.toList.take us.length ++ List.replicate n z ++ cur.toList.drop (us.length + n)).toArray) := by
          simp only [Nat.add_zero, List.length_replicate] at hst
          have hz0 : ¬ (n * i.size = 0) := by rw [i2]; omega
          simp [Builtin.append_, run_underlying T.sl, run_underlying htn, Go.sizeOf, typeInfo, zeroValue, hi, i1, i64, asInt, asIntOf, hw, hneg, h48i, hroom, hz0, i2, zeroCells_one T.cell, add_off, hst, hn]
        refine ⟨_, _, hr, Ow.mk hlen.symm ⟨by simp, .inr ⟨g, cap', _, rfl, Nat.zero_le _, setRow_heap w g cur _ e _ hg, hroom, hcm, ?_, ?_⟩⟩,
          Gr.of ⟨rfl, rfl, rfl, by simp, fun k _ hk => setRow_other w g k _ (fun e => hk (by rw [oB_pos hc0, e]))⟩, fun k hk => .inl (.inl (by have := hs_sl hk; rw [oB_pos hc0] at *; exact this))⟩
        · simp only [List.size_toArray, List.length_append, List.length_take, List.length_drop, Array.length_toList, List.length_replicate]
          omega
        · rw [Nat.mul_one] at htake
          rw [htake]
          exact List.take_left' (by simp)
      · have holds : ∀ j u, us[j]? = some u → w.cell? ((⟨g, 0, none⟩ : Addr).add j) = some u := World.ownsRow.cells h (g := g) rfl
        have hold : (Builtin.firstCells i.size us.length (.slice (some ⟨g, 0, none⟩) us.length cap')).run P w.drew = .ok us.toArray w.drew := by
          have := run_firstCells_some (P := P) w.drew i.size us.length ⟨g, 0, none⟩ us.length cap' us (by rw [i2]; simp) (fun j u hj => holds j u hj)
          exact this
        have hr := Lib.run_append_grow_zeros (P := P) w t tn ty e i z .i64 .i64 T.sl htn hi i1 (some ⟨g, 0, none⟩) us.length cap' us hold n (by omega) (by omega) (by omega) h63 (by rw [i3]; rw [Nat.mul_comm]; exact c2) (by rw [i3]; exact growslice_fits (by omega) b1)
        exact ⟨_, _, hr, Ow.mk hlen.symm (made cap'), Gr.of ⟨rfl, rfl, rfl, by simp, fun k hk _ => alloc_old w.drew _ k hk⟩, hnxn _ _ _⟩
/-- append(s, make([]T, n)...), s owned. -/
theorem stp_appz {α : Type} {R : World → List Value → Value → α → Prop} (hR : Stab R) {s x : Operand} {t tn e : TypeId} {z v : Value} {bytes : Nat} {l r : List α} {n : Int} {a : α} (L1 L2 : List Value)
    (ho : o.op = .call ⟨.builtin .append, #[s, x], #[t, tn]⟩) (T : TyS P t e z bytes) (htn : P.underlying tn = some (.int .i64)) (h1 : z.oneCell' = true) (hs : ev f s = v) (hx : ev f x = i64 n) (h : OwK R w (L1 ++ v :: L2) e v l) {m : List α} (hz : makeL n a = some m) (hza : ∀ w L, R w L z a) (hm : appL l m = some r)
    {K : Value → World → Prop} (hk : ∀ v' w', OwK R w' (L1 ++ v' :: L2) e v' r → Gr w w' v → Nx w v v' → Lift w w' (L1 ++ v :: L2) (L1 ++ v' :: L2) → K v' w') : Stp P o f w K := by
  obtain ⟨us, hown, hl, he⟩ := h
  obtain ⟨hmost, rfl⟩ := appL_some.1 hm
  unfold makeL at hz
  split at hz
  · rename_i hn
    obtain ⟨k, rfl⟩ := Int.eq_ofNat_of_zero_le hn.1
    obtain rfl := Option.some.inj hz
    simp only [Int.toNat_natCast, List.length_replicate] at hmost ⊢
    obtain ⟨v', w', hr, h2, h3, h4⟩ := run_appz (ty := o.type) T htn h1 hown k (by omega)
    have hlift := Lift.own L1 L2 h3 h4
    refine stp_of_run (v := v') (w' := w') ?_ (hk _ _ ⟨us ++ List.replicate k z, h2, by simp [hl], fun i a1 a2 => ?_⟩ h3 h4 hlift)
    · rw [exec_builtin _ ho]
      simp [builtin, hs, hx, hr]
    · by_cases hi : i < us.length
      · rw [List.getElem_append_left hi, List.getElem_append_left (by omega)]
        exact hR _ _ _ _ _ _ hlift (he i hi (by omega))
      · rw [List.getElem_append_right (by omega), List.getElem_append_right (by omega), List.getElem_replicate, List.getElem_replicate]
        exact hza _ _
  · cases hz
end

def slices_Grow (a0 : List UInt8) (n : Int) : Option (List UInt8) := if 0 ≤ n ∧ n ≤ most then some [] else none
set_option maxRecDepth 100000 in
set_option maxHeartbeats 8000000 in
theorem slices_Grow_calls (a0 : List UInt8) (n : Int) (p0 : Value) (r : List UInt8) (w0 : World) (hp0 : p0 = .slice none 0 0) (H : slices_Grow a0 n = some r) :
    Calls Try.prog 68 [p0, i64 n].toArray w0 (fun e w' => ∃ u0 : Value, e = .returned u0 ∧ Ext w0 w' ∧ Nw w0 u0 ∧ OwK (Sc u8) w' [] 5 u0 r) := by
  subst hp0
  unfold slices_Grow at H
  split at H
  case isFalse => cases H
  rename_i hn
  obtain rfl := Option.some.inj H
  have hE : Ext w0 w0 := Ext.refl w0
  obtain ⟨k, rfl⟩ := Int.eq_ofNat_of_zero_le hn.1
  have hmo : k ≤ 5000000000000 := by have := hn.2; simp only [most] at this; omega
  have hk0 : wI ((k : Int) - wI (0 - 0)) = k := by rw [wI_of (x := 0 - 0) (by decide) (by decide), wI_of (by omega) (by omega)]; omega
  refine calls_W (n := 27) Try.func68 rfl rfl rfl ?_
  refine W_seq ?_
  refine W_reg (by kernel_rfl) ?_
  refine wla rfl rfl (q_assign (v := (.slice none 0 0)) rfl rfl) ?_
  refine wl_nil ?_
  refine W_th ?_
  refine W_seq ?_
  refine W_seq ?_
  refine W_reg (by kernel_rfl) ?_
  refine wla rfl rfl (q_move (v := (i64 k)) rfl rfl) ?_
  refine wla rfl rfl (q_ltI rfl rfl rfl) ?_
  refine wl_nil ?_
  refine W_th ?_
  refine W_cond _ rfl rfl (fun hb => ?_) (fun hb => ?_)
  · have := of_decide_eq_true hb; omega
  refine W_skip ?_
  refine W_th ?_
  refine W_seq ?_
  refine W_seq ?_
  refine W_reg (by kernel_rfl) ?_
  refine wla rfl rfl (q_move (v := (i64 k)) rfl rfl) ?_
  refine wla rfl rfl (q_move (v := (.slice none 0 0)) rfl rfl) ?_
  refine wla rfl rfl (q_cap (α := UInt8) (R := Sc u8) rfl T22.sl rfl) ?_
  refine wla rfl rfl (q_move (v := (.slice none 0 0)) rfl rfl) ?_
  refine wla rfl rfl (q_len_nil rfl T22.sl rfl) ?_
  refine wla rfl rfl (q_subI rfl rfl rfl) ?_
  refine wla rfl rfl (q_subI rfl rfl rfl) ?_
  refine wla rfl rfl (q_assign (v := (i64 (wI ((k : Int) - wI (0 - 0))))) rfl rfl) ?_
  refine wl_nil ?_
  refine W_th ?_
  refine W_seq ?_
  refine W_reg (by kernel_rfl) ?_
  refine wla rfl rfl (q_move (v := (i64 k)) rfl (by show i64 _ = i64 _; rw [hk0])) ?_
  refine wla rfl rfl (q_gtI rfl rfl rfl) ?_
  refine wl_nil ?_
  refine W_th ?_
  refine W_cond _ rfl rfl (fun hb => ?_) (fun hb => ?_)
  · refine W_reg (by kernel_rfl) ?_
    refine wla rfl rfl (q_move (v := (.slice none 0 0)) rfl rfl) ?_
    refine wla rfl rfl (q_move (v := (.slice none 0 0)) rfl rfl) ?_
    refine wla rfl rfl (q_cap (α := UInt8) (R := Sc u8) rfl T22.sl rfl) ?_
    refine wla rfl rfl (q_slice (l := ([] : List UInt8)) (m := []) (R := Sc u8) (w := w0) (L := []) (a := 0) (b := 0) rfl T22 rfl (SlK.nil _ _ _) rfl rfl rfl) ?_
    refine wla rfl rfl (q_move (v := (i64 k)) rfl (by show i64 _ = i64 _; rw [hk0])) ?_
    refine wls rfl rfl (stp_appz (R := (Sc u8)) (v := (.slice none 0 0)) (l := []) (r := List.replicate k 0) (m := List.replicate k 0) (n := (k : Int)) (a := 0) (Sc.stab _) [] [] rfl T22 Try.underlying3 rfl rfl rfl (OwK.nil _ _ _ _) (by unfold makeL; rw [if_pos hn]; simp) (fun _ _ => rfl) (by unfold appL; rw [if_pos (by simp; omega)]; rfl) ?_)
    intro v1 w1 o1 g1 nx1 l1
    obtain ⟨us, hu, hl, he⟩ := o1
    rcases hu with ⟨p, rfl, rfl⟩ | ⟨g, cap, rfl, hc, hrow⟩
    · have : 0 < (k : Int) := of_decide_eq_true hb
      simp at hl; omega
    · have e1 : Ext w0 w1 := hE.grown g1 (Nw.nil _)
      have n1 : Nw w0 (.slice (some ⟨g, 0, none⟩) us.length cap) := Nw.nxt hE (Nw.nil _) nx1
      have h1 : SlK (Sc u8) w1 [] (.slice (some ⟨g, 0, none⟩) us.length cap) (List.replicate k (0 : UInt8)) := (OwK.rd (Sc.stab _) (L := []) ⟨us, .inr ⟨g, cap, rfl, hc, hrow⟩, hl, fun i a b => he i a b⟩)
      have hsub : subV (.slice (some ⟨g, 0, none⟩) us.length cap) (0 : Int).toNat (0 : Int).toNat = .slice (some ⟨g, 0, none⟩) 0 cap := by
        unfold subV
        by_cases h0 : cap = 0
        · omega
        · simp [Addr.add]
      refine wla rfl rfl (q_move (v := (.slice none 0 0)) rfl rfl) ?_
      refine wla rfl rfl (q_len_nil rfl T22.sl rfl) ?_
      refine wla rfl rfl (q_slice (m := []) (a := 0) (b := 0) rfl T22 rfl h1 rfl rfl (by unfold subL; rw [if_pos (by simp)]; simp)) ?_
      refine wla rfl rfl (q_assign (v := .slice (some ⟨g, 0, none⟩) 0 cap) rfl hsub) ?_
      refine wl_nil ?_
      refine W_th ?_
      refine W_seq ?_
      refine W_reg (by kernel_rfl) ?_
      refine wla rfl rfl (q_move (v := .slice (some ⟨g, 0, none⟩) 0 cap) rfl rfl) ?_
      refine wla rfl rfl (q_assign (v := .slice (some ⟨g, 0, none⟩) 0 cap) rfl rfl) ?_
      refine wl_nil ?_
      refine W_th ?_
      refine W_ret ?_
      refine rt1 (.slice (some ⟨g, 0, none⟩) 0 cap) rfl rfl rfl rfl ?_
      obtain ⟨cur, hg, a1, a2, a3, a4⟩ := row_spec hrow
      refine ⟨_, rfl, e1, fun q hq => n1 q ?_, [], .inr ⟨g, cap, rfl, hc, rfl, .inr ⟨g, cap, cur, rfl, Nat.zero_le _, hg, Nat.zero_le _, a2, a3, by simp⟩⟩, rfl, fun i h => absurd h (by simp)⟩
      have := hs_sl hq
      rw [oB_pos hc] at this
      exact .inl (by rw [oB_pos hc]; exact this)
  · refine W_skip ?_
    refine W_th ?_
    refine W_seq ?_
    refine W_reg (by kernel_rfl) ?_
    refine wla rfl rfl (q_move (v := (.slice none 0 0)) rfl rfl) ?_
    refine wla rfl rfl (q_assign (v := (.slice none 0 0)) rfl rfl) ?_
    refine wl_nil ?_
    refine W_th ?_
    refine W_ret ?_
    refine rt1 (.slice none 0 0) rfl rfl rfl rfl ?_
    exact ⟨_, rfl, hE, Nw.nil _, OwK.nil _ _ _ _⟩
/-! slices.Concat[[]byte,byte] -/
noncomputable def slices_Concat_sbytebyte (a0slices : List (List UInt8)) : Option (List UInt8) :=
((iterC (fun s1 : Int × Int =>
(if s1.2 < (a0slices.length : Int) then
((idx a0slices s1.2).bind fun c4 =>
(if (wI (s1.1 + (c4.length : Int))) < 0 then none
else some (.inl ((wI (s1.1 + (c4.length : Int))), (wI (s1.2 + 1))))))
else some (.inr s1.1))) (0, 0)).bind fun x1 =>
((slices_Grow ([] : List UInt8) x1).bind fun r9 =>
((iterC (fun s12 : List UInt8 × Int =>
(if s12.2 < (a0slices.length : Int) then
((idx a0slices s12.2).bind fun c15 =>
((appL s12.1 c15).bind fun c17 => some (.inl (c17, (wI (s12.2 + 1))))))
else some (.inr s12.1))) (r9, 0)).bind fun x12 => some x12)))
set_option maxRecDepth 100000 in
set_option maxHeartbeats 8000000 in
theorem slices_Concat_sbytebyte_calls (a0slices : List (List UInt8)) (p0 : Value) (r : List UInt8) (w0 : World) (hp0 : Rw w0 [] p0 a0slices) (H : slices_Concat_sbytebyte a0slices = some r) :
    Calls Try.prog 60 [p0].toArray w0 (fun e w' => ∃ u0 : Value, e = .returned u0 ∧ Ext w0 w' ∧ Nw w0 u0 ∧ OwK (Sc u8) w' [] 5 u0 r) := by
  have hE : Ext w0 w0 := Ext.refl w0
  unfold slices_Concat_sbytebyte at H
  refine calls_W (n := 36) Try.func60 rfl rfl rfl ?_
  refine W_seq ?_
  refine W_reg (by kernel_rfl) ?_
  refine wla rfl rfl (q_assign (v := (.slice none 0 0)) rfl rfl) ?_
  refine wl_nil ?_
  refine W_th ?_
  refine W_seq ?_
  refine W_reg (by kernel_rfl) ?_
  refine wla rfl rfl (q_assign (v := (i64 0)) rfl rfl) ?_
  refine wl_nil ?_
  refine W_th ?_
  refine W_seq ?_
  refine W_seq ?_
  refine W_reg (by kernel_rfl) ?_
  refine wla rfl rfl (q_move (v := p0) rfl rfl) ?_
  refine wla rfl rfl (q_len rfl T23.sl rfl (hp0.lift (Lift.ext hE _))) ?_
  refine wla rfl rfl (q_move (v := (i64 0)) rfl rfl) ?_
  refine wl_nil ?_
  refine W_th ?_
  obtain ⟨x1, G1, H⟩ := Option.bind_eq_some_iff.1 H
  refine W_mid (fun f w => f 0 = p0 ∧ f 3 = (i64 x1) ∧ f 36 = undef ∧ Ext w0 w) ?_ ?_
  · refine W_block ?_
    refine W_loop (fun s1 f w => f 0 = p0 ∧ f 3 = (i64 s1.1) ∧ f 9 = p0 ∧ f 10 = (i64 ((a0slices.length : Int))) ∧ f 11 = (i64 s1.2) ∧ f 36 = undef ∧ Ext w0 w) G1 ?_ ?_
    · exact ⟨rfl, rfl, rfl, rfl, rfl, rfl, hE⟩
    · rintro s1 _ _ w2 ⟨s0_2, s3_2, s9_2, s10_2, s11_2, s36_2, hE2⟩ H1 hr1
      refine W_seq ?_
      refine W_reg (by kernel_rfl) ?_
      refine wla rfl rfl (q_ltI rfl s11_2 s10_2) ?_
      refine wl_nil ?_
      refine W_th ?_
      refine W_seq ?_
      refine W_cond _ rfl rfl (fun hb3 => ?_) (fun hb3 => ?_)
      · replace H1 := (if_pos (of_decide_eq_true hb3)).symm.trans H1
        refine W_skip ?_
        refine W_th ?_
        refine W_seq ?_
        refine W_block ?_
        refine W_seq ?_
        refine W_reg (by kernel_rfl) ?_
        obtain ⟨c4, hc4, H1⟩ := Option.bind_eq_some_iff.1 H1
        refine wla rfl rfl (q_adr rfl T23 s9_2 s11_2 (hp0.lift (Lift.ext hE2 _)) hc4) ?_
        refine wlq_load rfl rfl rfl T23 rfl hp0 hc4 hE2 (fun v5 ha5 => ?_)
        refine wla rfl rfl (q_assign (v := v5) rfl rfl) ?_
        refine wl_nil ?_
        refine W_th ?_
        refine W_seq ?_
        refine W_reg (by kernel_rfl) ?_
        refine wla rfl rfl (q_move (v := (i64 s1.1)) rfl s3_2) ?_
        refine wla rfl rfl (q_move (v := v5) rfl rfl) ?_
        refine wla rfl rfl (q_len rfl T22.sl rfl (ha5.lift (Lift.ext hE2 _))) ?_
        refine wla rfl rfl (q_addI rfl rfl rfl) ?_
        refine wla rfl rfl (q_assign (v := (i64 ((wI (s1.1 + (c4.length : Int)))))) rfl rfl) ?_
        refine wl_nil ?_
        refine W_th ?_
        refine W_seq ?_
        refine W_reg (by kernel_rfl) ?_
        refine wla rfl rfl (q_move (v := (i64 ((wI (s1.1 + (c4.length : Int)))))) rfl rfl) ?_
        refine wla rfl rfl (q_ltI rfl rfl rfl) ?_
        refine wl_nil ?_
        refine W_th ?_
        refine W_cond _ rfl rfl (fun hb6 => ?_) (fun hb6 => ?_)
        · replace H1 := (if_pos (of_decide_eq_true hb6)).symm.trans H1
          cases H1
        · replace H1 := (if_neg (of_decide_eq_false hb6)).symm.trans H1
          refine W_skip ?_
          refine bk_n ?_
          refine W_th ?_
          refine W_reg (by kernel_rfl) ?_
          refine wla rfl rfl (q_addI rfl s11_2 rfl) ?_
          refine wla rfl rfl (q_move (v := (i64 ((wI (s1.2 + 1))))) rfl rfl) ?_
          refine wl_nil ?_
          obtain rfl := Option.some.inj H1
          exact ⟨_, rfl, s0_2, rfl, s9_2, s10_2, rfl, s36_2, hE2⟩
      · replace H1 := (if_neg (of_decide_eq_false hb3)).symm.trans H1
        refine W_exit ?_
        refine th_x ?_
        obtain rfl := Option.some.inj H1
        obtain rfl := hr1 _ rfl
        refine th_x ?_
        refine bk_x ?_
        exact ⟨s0_2, s3_2, s36_2, hE2⟩
  · rintro _ w8 ⟨s0_8, s3_8, s36_8, hE8⟩
    refine W_th ?_
    refine W_seq ?_
    refine W_reg (by kernel_rfl) ?_
    refine wla rfl rfl (q_move (v := (i64 x1)) rfl s3_8) ?_
    obtain ⟨r9, hr9, H⟩ := Option.bind_eq_some_iff.1 H
    refine wls rfl rfl (stp_call (vs := [(.slice none 0 0), (i64 x1)]) Try.func68 rfl rfl rfl (ar2 rfl rfl) (slices_Grow_calls ([] : List UInt8) x1 (.slice none 0 0) r9 _ rfl hr9) ?_)
    rintro _ w9 ⟨v9, rfl, x9, n9_0, o9_0⟩
    refine ⟨_, rfl, ?_⟩
    have o9 : OwK (Sc u8) w9 (v9 :: []) 5 v9 r9 := OwK.scal o9_0 _
    have n11 := Nw.ext hE8 n9_0
    have e10 := hE8.trans x9
    refine wla rfl rfl (q_assign (v := v9) rfl rfl) ?_
    refine wl_nil ?_
    refine W_th ?_
    refine W_seq ?_
    refine W_seq ?_
    refine W_reg (by kernel_rfl) ?_
    refine wla rfl rfl (q_move (v := p0) rfl s0_8) ?_
    refine wla rfl rfl (q_len rfl T23.sl rfl (hp0.lift (Lift.ext e10 _))) ?_
    refine wla rfl rfl (q_move (v := (i64 0)) rfl rfl) ?_
    refine wl_nil ?_
    refine W_th ?_
    obtain ⟨x12, G12, H⟩ := Option.bind_eq_some_iff.1 H
    refine W_mid (fun f w => ∃ v6_22 : Value, f 6 = v6_22 ∧ f 36 = undef ∧ Ext w0 w ∧ OwK (Sc u8) w [v6_22] 5 v6_22 x12 ∧ Nw w0 v6_22) ?_ ?_
    · refine W_block ?_
      refine W_loop (fun s12 f w => ∃ v6_20 : Value, f 6 = v6_20 ∧ f 25 = p0 ∧ f 26 = (i64 ((a0slices.length : Int))) ∧ f 27 = (i64 s12.2) ∧ f 36 = undef ∧ Ext w0 w ∧ OwK (Sc u8) w [v6_20] 5 v6_20 s12.1 ∧ Nw w0 v6_20) G12 ?_ ?_
      · exact ⟨v9, rfl, rfl, rfl, rfl, s36_8, e10, o9, n11⟩
      · rintro s12 _ _ w13 ⟨v6_13, s6_13, s25_13, s26_13, s27_13, s36_13, hE13, o0_13, n0_13⟩ H12 hr12
        refine W_seq ?_
        refine W_reg (by kernel_rfl) ?_
        refine wla rfl rfl (q_ltI rfl s27_13 s26_13) ?_
        refine wl_nil ?_
        refine W_th ?_
        refine W_seq ?_
        refine W_cond _ rfl rfl (fun hb14 => ?_) (fun hb14 => ?_)
        · replace H12 := (if_pos (of_decide_eq_true hb14)).symm.trans H12
          refine W_skip ?_
          refine W_th ?_
          refine W_seq ?_
          refine W_block ?_
          refine W_seq ?_
          refine W_reg (by kernel_rfl) ?_
          obtain ⟨c15, hc15, H12⟩ := Option.bind_eq_some_iff.1 H12
          refine wla rfl rfl (q_adr rfl T23 s25_13 s27_13 (hp0.lift (Lift.ext hE13 _)) hc15) ?_
          refine wlq_load rfl rfl rfl T23 rfl hp0 hc15 hE13 (fun v16 ha16 => ?_)
          refine wla rfl rfl (q_assign (v := v16) rfl rfl) ?_
          refine wl_nil ?_
          refine W_th ?_
          refine W_reg (by kernel_rfl) ?_
          refine wla rfl rfl (q_move (v := v6_13) rfl s6_13) ?_
          refine wla rfl rfl (q_move (v := v16) rfl rfl) ?_
          obtain ⟨c17, hc17, H12⟩ := Option.bind_eq_some_iff.1 H12
          refine wls rfl rfl (stp_append (R := (Sc u8)) (v := v6_13) (u := v16) (Sc.stab _) [] [] rfl T22 rfl rfl o0_13 (ha16.lift (Lift.ext hE13 _)) (fun _ _ h => h) hc17 oc_u8 ?_)
          intro v17 w17 o17 g17 nx17 l17
          have e18 := hE13.grown g17 n0_13
          have n19 := Nw.nxt hE13 n0_13 nx17
          refine wla rfl rfl (q_assign (v := v17) rfl rfl) ?_
          refine wl_nil ?_
          refine bk_n ?_
          refine W_th ?_
          refine W_reg (by kernel_rfl) ?_
          refine wla rfl rfl (q_addI rfl s27_13 rfl) ?_
          refine wla rfl rfl (q_move (v := (i64 ((wI (s12.2 + 1))))) rfl rfl) ?_
          refine wl_nil ?_
          obtain rfl := Option.some.inj H12
          exact ⟨_, rfl, v17, rfl, s25_13, s26_13, rfl, s36_13, e18, o17, n19⟩
        · replace H12 := (if_neg (of_decide_eq_false hb14)).symm.trans H12
          refine W_exit ?_
          refine th_x ?_
          obtain rfl := Option.some.inj H12
          obtain rfl := hr12 _ rfl
          refine th_x ?_
          refine bk_x ?_
          exact ⟨v6_13, s6_13, s36_13, hE13, o0_13, n0_13⟩
    · rintro _ w21 ⟨v6_21, s6_21, s36_21, hE21, o0_21, n0_21⟩
      refine W_th ?_
      refine W_seq ?_
      refine W_reg (by kernel_rfl) ?_
      refine wla rfl rfl (q_move (v := v6_21) rfl s6_21) ?_
      refine wla rfl rfl (q_assign (v := v6_21) rfl rfl) ?_
      refine wl_nil ?_
      refine W_th ?_
      refine W_ret ?_
      obtain rfl := Option.some.inj H
      refine rt1 v6_21 rfl rfl rfl s36_21 ?_
      exact ⟨v6_21, rfl, hE21, n0_21, (o0_21.weak (Sc.stab _) (fun _ _ => trivial))⟩

end Gk
