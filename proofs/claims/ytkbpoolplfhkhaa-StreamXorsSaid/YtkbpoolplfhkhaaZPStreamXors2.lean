/- Parts Go, Mz, Gq, Gp, Gw, S2, Gt, Gu, Fe, F7, Gx, Gy, Ha, F5a, Hc, Fj, F5c, Gv, Fk, one behind the other. What is proved: said at the head of each part. No condition beside those said there. -/
import Derived.Test.YtkbpoolplfhkhaaRows
import Derived.Orders
import Derived.Deep.Draws
import Derived.Laws.World
import Derived.KernelRfl
import Derived.OrdersIn
import Derived.TacticsIn
import Derived.RangeFuncCalls
import Derived.Deep.LoopGhost
import Derived.Tactics
import Derived.Sort.LoopGhostIn
import Derived.RangeFuncLeaves
import Derived.RangeFuncNested
import Derived.RangeFuncRecord
import Derived.Laws.Sem
import Derived.OwnWalk
import Derived.RangeFuncWrites
import Derived.Laws.IdiomCopy
import Derived.WalkKit
import Derived.ProofKit
import Derived.OpenShut
import Derived.ChangeOld
import Derived.Below
import Derived.Test.YtkbpoolplfhkhaaProg
import Derived.MapKept
import Derived.Lib.AppendZerosOnto
import Derived.Laws.CopyRow
import Derived.Laws.Cells
import Derived.Lib.SlBytesConst
import Derived.Test.YtkbpoolplfhkhaaZPStreamXors1
/- append of noughts (append(s, make(..)...)); slices.Grow on nothing; slices.Concat. No condition but the length. -/
set_option linter.unusedVariables false
set_option linter.unusedSimpArgs false
namespace Gk
open Go Go.Proofs
section
variable {P : Program} {o : Oper} {f : Nat → Value} {w : World} {L : List Value}
theorem q_cap {α : Type} {R : World → List Value → Value → α → Prop} {p : Option Addr} {n c : Nat} {x : Operand} {t e : TypeId}
    (ho : o.op = .call ⟨.builtin .cap, #[x], #[t]⟩) (ht : P.underlying t = some (.slice e)) (hx : ev f x = .slice p n c) : Qa P o f (i64 c) := by
  intro w'
  rw [exec_builtin _ ho]
  simp [builtin, Builtin.cap_, run_underlying ht, hx, goInt, i64]
theorem zeroCells_one {z : Value} (hz : z.cells = #[z]) (n : Nat) : (Builtin.zeroCells z.cells n).toList = List.replicate n z := by
  apply List.ext_getElem?
  intro i
  simp only [Builtin.zeroCells, hz]
  by_cases h : i < n
  · simp [h, Nat.mod_one]
  · simp [h]
theorem run_appz {t tn ty e : TypeId} {z v : Value} {bytes : Nat} {us : List Value} (T : TyS P t e z bytes) (htn : P.underlying tn = some (.int .i64)) (h1 : z.oneCell' = true) (h : Ow w e v us) (n : Nat) (hm : us.length + n ≤ most) :
    ∃ v' w', (Builtin.append_ #[t, tn] ty #[v, i64 n]).run P w = .ok v' w' ∧ Ow w' e v' (us ++ List.replicate n z) ∧ Gr w w' v ∧ Nx w v v' := by
  obtain ⟨i, hi, i1, i2, i3⟩ := info_parts T.info
  obtain ⟨b1, b2, b3⟩ := mem_most hm T.fit
  obtain ⟨c1, c2, c3⟩ := mem_most (show n ≤ most by omega) T.fit
  have h63 : ((us.length + n : Nat) : Int) ≤ 9223372036854775807 := by simp only [most] at hm; omega
  have hw : IntKind.i64.wrap (n : Int) = n := by rw [IntKind.wrap_i64]; simp only [most] at hm; omega
  have h48i : ¬ (281474976710656 < (n : Int) * (i.bytes : Int)) := by rw [← Int.natCast_mul, i3]; omega
  have hneg : ¬ ((n : Int) < 0) := by omega
  have made : ∀ (old : Nat), (w.drew.alloc (.cells (us.toArray ++ Builtin.zeroCells z.cells n ++ Builtin.zeroCells z.cells (grownCap w (us.length + n) old e - (us.length + n))) e)).ownsRow 0 e 1
        (.slice (some ⟨w.heap.size, 0, none⟩) (us.length + n) (grownCap w (us.length + n) old e)) (us.length + n) (us ++ List.replicate n z) := fun old => by
    have hge := grownCap_ge w (us.length + n) old e
    refine ⟨by simp, .inr ⟨w.heap.size, _, _, rfl, Nat.zero_le _, heap_alloc_new w.drew _, hge, grownCap_le_maxLen w _ old e b3, ?_, ?_⟩⟩
    · simp only [Array.size_append, List.size_toArray, size_zeroCells, T.cell]
      simp; omega
    · simp only [Array.toList_append, zeroCells_one T.cell]
      exact List.take_left' (by simp)
  have hlen : (us ++ List.replicate n z).length = us.length + n := by simp
  have hnxn : ∀ (v : Value) (n c : Nat), Nx w v (.slice (some ⟨w.heap.size, 0, none⟩) n c) := fun v n c => (Nw.mk w n c).nx v
  by_cases hn : n = 0
  · subst hn
    refine ⟨v, w, ?_, by simpa using h, Gr.refl w v, Nx.refl w v⟩
    have hw0 : IntKind.i64.wrap 0 = 0 := by rw [IntKind.wrap_i64]; rfl
    rcases h with ⟨pv, rfl, rfl⟩ | ⟨g, cap', rfl, hc0, h⟩
    · cases pv <;> simp [Builtin.append_, run_underlying T.sl, run_underlying htn, Go.sizeOf, typeInfo, hi, i64, asInt, asIntOf, storeCells, hw0]
    · obtain ⟨cur, hg, hc, _⟩ := row_spec h
      simp [Builtin.append_, run_underlying T.sl, run_underlying htn, Go.sizeOf, typeInfo, hi, i64, asInt, asIntOf, storeCells, hw0, hc]
  · rcases h with ⟨pv, rfl, rfl⟩ | ⟨g, cap', rfl, hc0, h⟩
    · have hold : (Builtin.firstCells i.size 0 (.slice pv 0 0)).run P w.drew = .ok ([] : List Value).toArray w.drew := by
        cases pv <;> simp [Builtin.firstCells, loadCells, loadCellsFrom]
      have hr := Lib.run_append_grow_zeros (P := P) w t tn ty e i z .i64 .i64 T.sl htn hi i1 pv 0 0 [] hold n (by omega) (by omega) (by omega) (by simpa using h63) (by rw [i3]; rw [Nat.mul_comm]; exact c2) (by rw [i3]; exact growslice_fits (by omega) (by simpa using b1))
      have hmk := made 0
      exact ⟨_, _, hr, Ow.mk (by simp) hmk, Gr.of ⟨rfl, rfl, rfl, by simp, fun k hk _ => alloc_old w.drew _ k hk⟩, hnxn _ _ _⟩
    · obtain ⟨cur, hg, hc, hcm, hcs, htake⟩ := row_spec h
      by_cases hroom : us.length + n ≤ cap'
      · have hst := run_storeCells_at P g us.length e (List.replicate n z) 0 cur w hg (by rw [hcs]; simp; omega) (fun v hv => by rw [(List.mem_replicate.1 hv).2]; exact h1)
        have hr : (Builtin.append_ #[t, tn] ty #[.slice (some ⟨g, 0, none⟩) us.length cap', i64 n]).run P w = .ok (.slice (some ⟨g, 0, none⟩) (us.length + n) cap') (w.setRow g (cur.toList.take us.length ++ List.replicate n z ++ cur.toList.drop (us.length + n)).toArray) := by
          simp only [Nat.add_zero, List.length_replicate] at hst
          have hz0 : ¬ (n * i.size = 0) := by rw [i2]; omega
          simp [Builtin.append_, run_underlying T.sl, run_underlying htn, Go.sizeOf, typeInfo, zeroValue, hi, i1, i64, asInt, asIntOf, hw, hneg, h48i, hroom, hz0, i2, zeroCells_one T.cell, add_off, hst, hn]
        refine ⟨_, _, hr, Ow.mk hlen.symm ⟨by simp, .inr ⟨g, cap', _, rfl, Nat.zero_le _, setRow_heap w g cur _ e _ hg, hroom, hcm, ?_, ?_⟩⟩,
          Gr.of ⟨rfl, rfl, rfl, by simp, fun k _ hk => setRow_other w g k _ (fun e => hk (by rw [oB_pos hc0, e]))⟩, fun k hk => .inl (.inl (by have := hs_sl hk; rw [oB_pos hc0] at *; exact this))⟩
        · simp only [List.size_toArray, List.length_append, List.length_take, List.length_drop, Array.length_toList, List.length_replicate]
          omega
        · rw [Nat.mul_one] at htake
          rw [htake]
          exact List.take_left' (by simp)
      · have holds : ∀ j u, us[j]? = some u → w.cell? ((⟨g, 0, none⟩ : Addr).add j) = some u := World.ownsRow.cells h (g := g) rfl
        have hold : (Builtin.firstCells i.size us.length (.slice (some ⟨g, 0, none⟩) us.length cap')).run P w.drew = .ok us.toArray w.drew := by
          have := run_firstCells_some (P := P) w.drew i.size us.length ⟨g, 0, none⟩ us.length cap' us (by rw [i2]; simp) (fun j u hj => holds j u hj)
          exact this
        have hr := Lib.run_append_grow_zeros (P := P) w t tn ty e i z .i64 .i64 T.sl htn hi i1 (some ⟨g, 0, none⟩) us.length cap' us hold n (by omega) (by omega) (by omega) h63 (by rw [i3]; rw [Nat.mul_comm]; exact c2) (by rw [i3]; exact growslice_fits (by omega) b1)
        exact ⟨_, _, hr, Ow.mk hlen.symm (made cap'), Gr.of ⟨rfl, rfl, rfl, by simp, fun k hk _ => alloc_old w.drew _ k hk⟩, hnxn _ _ _⟩
theorem stp_appz {α : Type} {R : World → List Value → Value → α → Prop} (hR : Stab R) {s x : Operand} {t tn e : TypeId} {z v : Value} {bytes : Nat} {l r : List α} {n : Int} {a : α} (L1 L2 : List Value)
    (ho : o.op = .call ⟨.builtin .append, #[s, x], #[t, tn]⟩) (T : TyS P t e z bytes) (htn : P.underlying tn = some (.int .i64)) (h1 : z.oneCell' = true) (hs : ev f s = v) (hx : ev f x = i64 n) (h : OwK R w (L1 ++ v :: L2) e v l) {m : List α} (hz : makeL n a = some m) (hza : ∀ w L, R w L z a) (hm : appL l m = some r)
    {K : Value → World → Prop} (hk : ∀ v' w', OwK R w' (L1 ++ v' :: L2) e v' r → Gr w w' v → Nx w v v' → Lift w w' (L1 ++ v :: L2) (L1 ++ v' :: L2) → K v' w') : Stp P o f w K := by
  obtain ⟨us, hown, hl, he⟩ := h
  obtain ⟨hmost, rfl⟩ := appL_some.1 hm
  unfold makeL at hz
  split at hz
  · rename_i hn
    obtain ⟨k, rfl⟩ := Int.eq_ofNat_of_zero_le hn.1
    obtain rfl := Option.some.inj hz
    simp only [Int.toNat_natCast, List.length_replicate] at hmost ⊢
    obtain ⟨v', w', hr, h2, h3, h4⟩ := run_appz (ty := o.type) T htn h1 hown k (by omega)
    have hlift := Lift.own L1 L2 h3 h4
    refine stp_of_run (v := v') (w' := w') ?_ (hk _ _ ⟨us ++ List.replicate k z, h2, by simp [hl], fun i a1 a2 => ?_⟩ h3 h4 hlift)
    · rw [exec_builtin _ ho]
      simp [builtin, hs, hx, hr]
    · by_cases hi : i < us.length
      · rw [List.getElem_append_left hi, List.getElem_append_left (by omega)]
        exact hR _ _ _ _ _ _ hlift (he i hi (by omega))
      · rw [List.getElem_append_right (by omega), List.getElem_append_right (by omega), List.getElem_replicate, List.getElem_replicate]
        exact hza _ _
  · cases hz
end
def slices_Grow (a0 : List UInt8) (n : Int) : Option (List UInt8) := if 0 ≤ n ∧ n ≤ most then some [] else none
set_option maxRecDepth 100000 in
set_option maxHeartbeats 8000000 in
theorem slices_Grow_calls (a0 : List UInt8) (n : Int) (p0 : Value) (r : List UInt8) (w0 : World) (hp0 : p0 = .slice none 0 0) (H : slices_Grow a0 n = some r) :
    Calls Try.prog 75 [p0, i64 n].toArray w0 (fun e w' => ∃ u0 : Value, e = .returned u0 ∧ Ext w0 w' ∧ Nw w0 u0 ∧ OwK (Sc u8) w' [] 5 u0 r) := by
  subst hp0
  unfold slices_Grow at H
  split at H
  case isFalse => cases H
  rename_i hn
  obtain rfl := osi H; have hE : Ext w0 w0 := Ext.refl w0; obtain ⟨k, rfl⟩ := Int.eq_ofNat_of_zero_le hn.1
  have hmo : k ≤ 5000000000000 := by have := hn.2; simp only [most] at this; omega
  have hk0 : wI ((k : Int) - wI (0 - 0)) = k := by rw [wI_of (x := 0 - 0) (by decide) (by decide), wI_of (by omega) (by omega)]; omega
  refine calls_W (n := 27) Try.func75 rfl rfl rfl ?_; refine W_seq ?_; refine W_reg (by kernel_rfl) ?_; refine wla rfl rfl (q_assign (v := (.slice none 0 0)) rfl rfl) ?_; refine wl_nil ?_; refine W_th ?_; refine W_seq ?_; refine W_seq ?_; refine W_reg (by kernel_rfl) ?_; refine wla rfl rfl (q_move (v := (i64 k)) rfl rfl) ?_; refine wla rfl rfl (q_ltI rfl rfl rfl) ?_; refine wl_nil ?_; refine W_th ?_; refine W_cond _ rfl rfl (fun hb => ?_) (fun hb => ?_)
  · have := of_decide_eq_true hb; omega
  refine W_skip ?_; refine W_th ?_; refine W_seq ?_; refine W_seq ?_; refine W_reg (by kernel_rfl) ?_; refine wla rfl rfl (q_move (v := (i64 k)) rfl rfl) ?_; refine wla rfl rfl (q_move (v := (.slice none 0 0)) rfl rfl) ?_; refine wla rfl rfl (q_cap (α := UInt8) (R := Sc u8) rfl T22.sl rfl) ?_; refine wla rfl rfl (q_move (v := (.slice none 0 0)) rfl rfl) ?_; refine wla rfl rfl (q_len_nil rfl T22.sl rfl) ?_; refine wla rfl rfl (q_subI rfl rfl rfl) ?_; refine wla rfl rfl (q_subI rfl rfl rfl) ?_; refine wla rfl rfl (q_assign (v := (i64 (wI ((k : Int) - wI (0 - 0))))) rfl rfl) ?_; refine wl_nil ?_; refine W_th ?_; refine W_seq ?_; refine W_reg (by kernel_rfl) ?_; refine wla rfl rfl (q_move (v := (i64 k)) rfl (by show i64 _ = i64 _; rw [hk0])) ?_
  refine wla rfl rfl (q_gtI rfl rfl rfl) ?_; refine wl_nil ?_; refine W_th ?_; refine W_cond _ rfl rfl (fun hb => ?_) (fun hb => ?_)
  · refine W_reg (by kernel_rfl) ?_; refine wla rfl rfl (q_move (v := (.slice none 0 0)) rfl rfl) ?_; refine wla rfl rfl (q_move (v := (.slice none 0 0)) rfl rfl) ?_; refine wla rfl rfl (q_cap (α := UInt8) (R := Sc u8) rfl T22.sl rfl) ?_; refine wla rfl rfl (q_slice (l := ([] : List UInt8)) (m := []) (R := Sc u8) (w := w0) (L := []) (a := 0) (b := 0) rfl T22 rfl (SlK.nil _ _ _) rfl rfl rfl) ?_; refine wla rfl rfl (q_move (v := (i64 k)) rfl (by show i64 _ = i64 _; rw [hk0])) ?_
    refine wls rfl rfl (stp_appz (R := (Sc u8)) (v := (.slice none 0 0)) (l := []) (r := List.replicate k 0) (m := List.replicate k 0) (n := (k : Int)) (a := 0) (Sc.stab _) [] [] rfl T22 Try.underlying3 rfl rfl rfl (OwK.nil _ _ _ _) (by unfold makeL; rw [if_pos hn]; simp) (fun _ _ => rfl) (by unfold appL; rw [if_pos (by simp; omega)]; rfl) ?_)
    intro v1 w1 o1 g1 nx1 l1; obtain ⟨us, hu, hl, he⟩ := o1
    rcases hu with ⟨p, rfl, rfl⟩ | ⟨g, cap, rfl, hc, hrow⟩
    · have : 0 < (k : Int) := of_decide_eq_true hb
      simp at hl; omega
    have e1 : Ext w0 w1 := hE.grown g1 (Nw.nil _); have n1 : Nw w0 (.slice (some ⟨g, 0, none⟩) us.length cap) := Nw.nxt hE (Nw.nil _) nx1; have h1 : SlK (Sc u8) w1 [] (.slice (some ⟨g, 0, none⟩) us.length cap) (List.replicate k (0 : UInt8)) := (OwK.rd (Sc.stab _) (L := []) ⟨us, .inr ⟨g, cap, rfl, hc, hrow⟩, hl, fun i a b => he i a b⟩)
    have hsub : subV (.slice (some ⟨g, 0, none⟩) us.length cap) (0 : Int).toNat (0 : Int).toNat = .slice (some ⟨g, 0, none⟩) 0 cap := by
      unfold subV
      by_cases h0 : cap = 0
      · omega
      simp [Addr.add]
    refine wla rfl rfl (q_move (v := (.slice none 0 0)) rfl rfl) ?_; refine wla rfl rfl (q_len_nil rfl T22.sl rfl) ?_; refine wla rfl rfl (q_slice (m := []) (a := 0) (b := 0) rfl T22 rfl h1 rfl rfl (by unfold subL; rw [if_pos (by simp)]; simp)) ?_
    refine wla rfl rfl (q_assign (v := .slice (some ⟨g, 0, none⟩) 0 cap) rfl hsub) ?_; refine wl_nil ?_; refine W_th ?_; refine W_seq ?_; refine W_reg (by kernel_rfl) ?_; refine wla rfl rfl (q_move (v := .slice (some ⟨g, 0, none⟩) 0 cap) rfl rfl) ?_; refine wla rfl rfl (q_assign (v := .slice (some ⟨g, 0, none⟩) 0 cap) rfl rfl) ?_; refine wl_nil ?_; refine W_th ?_; refine W_ret ?_; refine rt1 (.slice (some ⟨g, 0, none⟩) 0 cap) rfl rfl rfl rfl ?_; obtain ⟨cur, hg, a1, a2, a3, a4⟩ := row_spec hrow; refine ⟨_, rfl, e1, fun q hq => n1 q ?_, [], .inr ⟨g, cap, rfl, hc, rfl, .inr ⟨g, cap, cur, rfl, Nat.zero_le _, hg, Nat.zero_le _, a2, a3, by simp⟩⟩, rfl, fun i h => absurd h (by simp)⟩; have := hs_sl hq; rw [oB_pos hc] at this; exact .inl (by rw [oB_pos hc]; exact this)
  refine W_skip ?_; refine W_th ?_; refine W_seq ?_; refine W_reg (by kernel_rfl) ?_; refine wla rfl rfl (q_move (v := (.slice none 0 0)) rfl rfl) ?_; refine wla rfl rfl (q_assign (v := (.slice none 0 0)) rfl rfl) ?_; refine wl_nil ?_; refine W_th ?_; refine W_ret ?_; refine rt1 (.slice none 0 0) rfl rfl rfl rfl ?_; exact ⟨_, rfl, hE, Nw.nil _, OwK.nil _ _ _ _⟩
noncomputable def slices_Concat_sbytebyte (a0slices : List (List UInt8)) : Option (List UInt8) :=
((iterC (fun s1 : Int × Int =>
(if s1.2 < (a0slices.length : Int) then
((idx a0slices s1.2).bind fun c4 =>
(if (wI (s1.1 + (c4.length : Int))) < 0 then none
else some (.inl ((wI (s1.1 + (c4.length : Int))), (wI (s1.2 + 1))))))
else some (.inr s1.1))) (0, 0)).bind fun x1 =>
((slices_Grow ([] : List UInt8) x1).bind fun r9 =>
((iterC (fun s12 : List UInt8 × Int =>
(if s12.2 < (a0slices.length : Int) then
((idx a0slices s12.2).bind fun c15 =>
((appL s12.1 c15).bind fun c17 => some (.inl (c17, (wI (s12.2 + 1))))))
else some (.inr s12.1))) (r9, 0)).bind fun x12 => some x12)))
set_option maxRecDepth 100000 in
set_option maxHeartbeats 8000000 in
theorem slices_Concat_sbytebyte_calls (a0slices : List (List UInt8)) (p0 : Value) (r : List UInt8) (w0 : World) (hp0 : Rw w0 [] p0 a0slices) (H : slices_Concat_sbytebyte a0slices = some r) :
    Calls Try.prog 51 [p0].toArray w0 (fun e w' => ∃ u0 : Value, e = .returned u0 ∧ Ext w0 w' ∧ Nw w0 u0 ∧ OwK (Sc u8) w' [] 5 u0 r) := by
  have hE : Ext w0 w0 := Ext.refl w0; unfold slices_Concat_sbytebyte at H; refine calls_W (n := 36) Try.func51 rfl rfl rfl ?_; refine W_seq ?_; refine W_reg (by kernel_rfl) ?_; refine wla rfl rfl (q_assign (v := (.slice none 0 0)) rfl rfl) ?_; refine wl_nil ?_; refine W_th ?_; refine W_seq ?_; refine W_reg (by kernel_rfl) ?_; refine wla rfl rfl (q_assign (v := (i64 0)) rfl rfl) ?_; refine wl_nil ?_; refine W_th ?_; refine W_seq ?_; refine W_seq ?_; refine W_reg (by kernel_rfl) ?_; refine wla rfl rfl (q_move (v := p0) rfl rfl) ?_; refine wla rfl rfl (q_len rfl T61.sl rfl (hp0.lift (Lift.ext hE _))) ?_; refine wla rfl rfl (q_move (v := (i64 0)) rfl rfl) ?_; refine wl_nil ?_; refine W_th ?_; obtain ⟨x1, G1, H⟩ := bsi H; refine W_mid (fun f w => f 0 = p0 ∧ f 3 = (i64 x1) ∧ f 36 = undef ∧ Ext w0 w) ?_ ?_
  · refine W_block ?_; refine W_loop (fun s1 f w => f 0 = p0 ∧ f 3 = (i64 s1.1) ∧ f 9 = p0 ∧ f 10 = (i64 ((a0slices.length : Int))) ∧ f 11 = (i64 s1.2) ∧ f 36 = undef ∧ Ext w0 w) G1 ?_ ?_
    · exact ⟨rfl, rfl, rfl, rfl, rfl, rfl, hE⟩
    rintro s1 _ _ w2 ⟨s0_2, s3_2, s9_2, s10_2, s11_2, s36_2, hE2⟩ H1 hr1; refine W_seq ?_; refine W_reg (by kernel_rfl) ?_; refine wla rfl rfl (q_ltI rfl s11_2 s10_2) ?_; refine wl_nil ?_; refine W_th ?_; refine W_seq ?_; refine W_cond _ rfl rfl (fun hb3 => ?_) (fun hb3 => ?_)
    · replace H1 := (if_pos (of_decide_eq_true hb3)).symm.trans H1; refine W_skip ?_; refine W_th ?_; refine W_seq ?_; refine W_block ?_; refine W_seq ?_; refine W_reg (by kernel_rfl) ?_; obtain ⟨c4, hc4, H1⟩ := bsi H1; refine wla rfl rfl (q_adr rfl T61 s9_2 s11_2 (hp0.lift (Lift.ext hE2 _)) hc4) ?_; refine wlq_load rfl rfl rfl T61 rfl hp0 hc4 hE2 (fun v5 ha5 => ?_); refine wla rfl rfl (q_assign (v := v5) rfl rfl) ?_; refine wl_nil ?_; refine W_th ?_; refine W_seq ?_; refine W_reg (by kernel_rfl) ?_; refine wla rfl rfl (q_move (v := (i64 s1.1)) rfl s3_2) ?_; refine wla rfl rfl (q_move (v := v5) rfl rfl) ?_; refine wla rfl rfl (q_len rfl T22.sl rfl (ha5.lift (Lift.ext hE2 _))) ?_; refine wla rfl rfl (q_addI rfl rfl rfl) ?_; refine wla rfl rfl (q_assign (v := (i64 ((wI (s1.1 + (c4.length : Int)))))) rfl rfl) ?_; refine wl_nil ?_; refine W_th ?_; refine W_seq ?_; refine W_reg (by kernel_rfl) ?_; refine wla rfl rfl (q_move (v := (i64 ((wI (s1.1 + (c4.length : Int)))))) rfl rfl) ?_; refine wla rfl rfl (q_ltI rfl rfl rfl) ?_; refine wl_nil ?_; refine W_th ?_; refine W_cond _ rfl rfl (fun hb6 => ?_) (fun hb6 => ?_)
      · replace H1 := (if_pos (of_decide_eq_true hb6)).symm.trans H1; cases H1
      replace H1 := (if_neg (of_decide_eq_false hb6)).symm.trans H1; refine W_skip ?_; refine bk_n ?_; refine W_th ?_; refine W_reg (by kernel_rfl) ?_; refine wla rfl rfl (q_addI rfl s11_2 rfl) ?_; refine wla rfl rfl (q_move (v := (i64 ((wI (s1.2 + 1))))) rfl rfl) ?_; refine wl_nil ?_; obtain rfl := osi H1; exact ⟨_, rfl, s0_2, rfl, s9_2, s10_2, rfl, s36_2, hE2⟩
    replace H1 := (if_neg (of_decide_eq_false hb3)).symm.trans H1; refine W_exit ?_; refine th_x ?_; obtain rfl := osi H1; obtain rfl := hr1 _ rfl; refine th_x ?_; refine bk_x ?_; exact ⟨s0_2, s3_2, s36_2, hE2⟩
  rintro _ w8 ⟨s0_8, s3_8, s36_8, hE8⟩; refine W_th ?_; refine W_seq ?_; refine W_reg (by kernel_rfl) ?_; refine wla rfl rfl (q_move (v := (i64 x1)) rfl s3_8) ?_; obtain ⟨r9, hr9, H⟩ := bsi H; refine wls rfl rfl (stp_call (vs := [(.slice none 0 0), (i64 x1)]) Try.func75 rfl rfl rfl (ar2 rfl rfl) (slices_Grow_calls ([] : List UInt8) x1 (.slice none 0 0) r9 _ rfl hr9) ?_); rintro _ w9 ⟨v9, rfl, x9, n9_0, o9_0⟩; refine ⟨_, rfl, ?_⟩; have o9 : OwK (Sc u8) w9 (v9 :: []) 5 v9 r9 := OwK.scal o9_0 _; have n11 := Nw.ext hE8 n9_0; have e10 := hE8.trans x9; refine wla rfl rfl (q_assign (v := v9) rfl rfl) ?_; refine wl_nil ?_; refine W_th ?_; refine W_seq ?_; refine W_seq ?_; refine W_reg (by kernel_rfl) ?_; refine wla rfl rfl (q_move (v := p0) rfl s0_8) ?_; refine wla rfl rfl (q_len rfl T61.sl rfl (hp0.lift (Lift.ext e10 _))) ?_; refine wla rfl rfl (q_move (v := (i64 0)) rfl rfl) ?_; refine wl_nil ?_; refine W_th ?_; obtain ⟨x12, G12, H⟩ := bsi H; refine W_mid (fun f w => ∃ v6_22 : Value, f 6 = v6_22 ∧ f 36 = undef ∧ Ext w0 w ∧ OwK (Sc u8) w [v6_22] 5 v6_22 x12 ∧ Nw w0 v6_22) ?_ ?_
  · refine W_block ?_; refine W_loop (fun s12 f w => ∃ v6_20 : Value, f 6 = v6_20 ∧ f 25 = p0 ∧ f 26 = (i64 ((a0slices.length : Int))) ∧ f 27 = (i64 s12.2) ∧ f 36 = undef ∧ Ext w0 w ∧ OwK (Sc u8) w [v6_20] 5 v6_20 s12.1 ∧ Nw w0 v6_20) G12 ?_ ?_
    · exact ⟨v9, rfl, rfl, rfl, rfl, s36_8, e10, o9, n11⟩
    rintro s12 _ _ w13 ⟨v6_13, s6_13, s25_13, s26_13, s27_13, s36_13, hE13, o0_13, n0_13⟩ H12 hr12; refine W_seq ?_; refine W_reg (by kernel_rfl) ?_; refine wla rfl rfl (q_ltI rfl s27_13 s26_13) ?_; refine wl_nil ?_; refine W_th ?_; refine W_seq ?_; refine W_cond _ rfl rfl (fun hb14 => ?_) (fun hb14 => ?_)
    · replace H12 := (if_pos (of_decide_eq_true hb14)).symm.trans H12; refine W_skip ?_; refine W_th ?_; refine W_seq ?_; refine W_block ?_; refine W_seq ?_; refine W_reg (by kernel_rfl) ?_; obtain ⟨c15, hc15, H12⟩ := bsi H12; refine wla rfl rfl (q_adr rfl T61 s25_13 s27_13 (hp0.lift (Lift.ext hE13 _)) hc15) ?_; refine wlq_load rfl rfl rfl T61 rfl hp0 hc15 hE13 (fun v16 ha16 => ?_); refine wla rfl rfl (q_assign (v := v16) rfl rfl) ?_; refine wl_nil ?_; refine W_th ?_; refine W_reg (by kernel_rfl) ?_; refine wla rfl rfl (q_move (v := v6_13) rfl s6_13) ?_; refine wla rfl rfl (q_move (v := v16) rfl rfl) ?_; obtain ⟨c17, hc17, H12⟩ := bsi H12; refine wls rfl rfl (stp_append (R := (Sc u8)) (v := v6_13) (u := v16) (Sc.stab _) [] [] rfl T22 rfl rfl o0_13 (ha16.lift (Lift.ext hE13 _)) (fun _ _ h => h) hc17 oc_u8 ?_); intro v17 w17 o17 g17 nx17 l17; have e18 := hE13.grown g17 n0_13; have n19 := Nw.nxt hE13 n0_13 nx17; refine wla rfl rfl (q_assign (v := v17) rfl rfl) ?_; refine wl_nil ?_; refine bk_n ?_; refine W_th ?_; refine W_reg (by kernel_rfl) ?_; refine wla rfl rfl (q_addI rfl s27_13 rfl) ?_; refine wla rfl rfl (q_move (v := (i64 ((wI (s12.2 + 1))))) rfl rfl) ?_; refine wl_nil ?_; obtain rfl := osi H12; exact ⟨_, rfl, v17, rfl, s25_13, s26_13, rfl, s36_13, e18, o17, n19⟩
    replace H12 := (if_neg (of_decide_eq_false hb14)).symm.trans H12; refine W_exit ?_; refine th_x ?_; obtain rfl := osi H12; obtain rfl := hr12 _ rfl; refine th_x ?_; refine bk_x ?_; exact ⟨v6_13, s6_13, s36_13, hE13, o0_13, n0_13⟩
  rintro _ w21 ⟨v6_21, s6_21, s36_21, hE21, o0_21, n0_21⟩; refine W_th ?_; refine W_seq ?_; refine W_reg (by kernel_rfl) ?_; refine wla rfl rfl (q_move (v := v6_21) rfl s6_21) ?_; refine wla rfl rfl (q_assign (v := v6_21) rfl rfl) ?_; refine wl_nil ?_; refine W_th ?_; refine W_ret ?_; obtain rfl := osi H; refine rt1 v6_21 rfl rfl rfl s36_21 ?_; exact ⟨v6_21, rfl, hE21, n0_21, (o0_21.weak (Sc.stab _) (fun _ _ => trivial))⟩
end Gk

/- Small laws of lists, rows and numbers. No condition but lengths. -/
set_option linter.unusedSimpArgs false
set_option linter.unusedVariables false
namespace Gk
open Gf
theorem idx_co {p : List UInt8} {i : Nat} (h : i < p.length) : idx p (i : Int) = some (co p i) := by rw [idx_nat, co_get h]
theorem subL_nat {α : Type} (l : List α) (a b : Nat) (h1 : a ≤ b) (h2 : b ≤ l.length) : subL l (a : Int) (b : Int) = some ((l.take b).drop a) := by
  unfold subL; rw [if_pos ⟨by omega, by omega, by omega⟩]; simp
theorem wI_add (a b : Nat) (h : a + b < 9223372036854775808) : wI ((a : Int) + (b : Int)) = ((a + b : Nat) : Int) := by rw [wI_of (by omega) (by omega)]; omega
theorem wI_sub (a b : Nat) (h : b ≤ a) (h2 : a < 9223372036854775808) : wI ((a : Int) - (b : Int)) = ((a - b : Nat) : Int) := by rw [wI_of (by omega) (by omega)]; omega
theorem wI_pred (a : Nat) (h : 1 ≤ a) (h2 : a < 9223372036854775808) : wI ((a : Int) - 1) = ((a - 1 : Nat) : Int) := by rw [wI_of (by omega) (by omega)]; omega
theorem most_lt' : most < 9223372036854775000 := by decide
theorem eq_of_co {p q : List UInt8} (hl : p.length = q.length) (h : ∀ i, co p i = co q i) : p = q := by
  apply List.ext_getElem hl
  intro i h1 h2
  have := h i
  rwa [co_lt h1, co_lt h2] at this
theorem copyL_len {α : Type} (l : List α) (off : Nat) (m : List α) (h : off ≤ l.length) : (copyL l (off : Int) m).length = l.length := by
  simp only [copyL, Int.toNat_natCast, List.length_append, List.length_take, List.length_drop]; omega
theorem co_copyL (l : List UInt8) (off : Nat) (m : List UInt8) (h : off + m.length ≤ l.length) (j : Nat) : co (copyL l (off : Int) m) j = if off ≤ j ∧ j < off + m.length then co m (j - off) else co l j := by
  have e1 : m.take (l.length - off) = m := List.take_of_length_le (by omega)
  have e2 : min m.length (l.length - off) = m.length := by omega
  simp only [copyL, Int.toNat_natCast, e1, e2, co, List.getD_eq_getElem?_getD, List.getElem?_append, List.length_take, List.getElem?_take, List.getElem?_drop]
  by_cases h1 : j < off
  · rw [if_pos (by omega), if_pos (by omega), if_neg (by omega)]
  · rw [if_neg (by omega), show j - min off l.length = j - off by omega]
    by_cases h2 : j < off + m.length
    · rw [if_pos (by omega), if_pos ⟨by omega, h2⟩]
    · rw [if_neg (by omega), if_neg (by omega)]
      congr 2; omega
theorem co_take (p : List UInt8) (n i : Nat) : co (p.take n) i = if i < n then co p i else 0 := by
  simp only [co, List.getD_eq_getElem?_getD, List.getElem?_take]; split <;> simp
theorem co_drop (p : List UInt8) (n i : Nat) : co (p.drop n) i = co p (n + i) := by
  simp only [co, List.getD_eq_getElem?_getD, List.getElem?_drop]
theorem take_snoc {p : List UInt8} {i : Nat} (h : i < p.length) : p.take (i + 1) = p.take i ++ [co p i] := by
  rw [List.take_add_one, co_get h]; rfl
theorem co_tab (n : Nat) (f : Nat → UInt8) (i : Nat) : co ((List.range n).map f) i = if i < n then f i else 0 := by
  simp only [co, List.getD_eq_getElem?_getD, List.getElem?_map]
  by_cases h : i < n
  · simp [h]
  · rw [List.getElem?_eq_none (by simpa using h), if_neg h]; rfl
theorem getD_get {l : List (List UInt8)} {k : Nat} (h : k < l.length) : l[k]? = some (l.getD k []) := by simp [List.getD_eq_getElem?_getD, h]
theorem getD_mem {l : List (List UInt8)} {k : Nat} (h : k < l.length) : l.getD k [] ∈ l := List.mem_of_getElem? (getD_get h)
theorem idx_getD {l : List (List UInt8)} {k : Nat} (h : k < l.length) : idx l (k : Int) = some (l.getD k []) := by rw [idx_nat, getD_get h]
theorem rows_snoc {l : List (List UInt8)} {i : Nat} (h : i < l.length) : l.take (i + 1) = l.take i ++ [l.getD i []] := by
  rw [List.take_add_one, getD_get h]; rfl
theorem appL_ok {α : Type} (a b : List α) (h : a.length + b.length ≤ most) (hb : b.length = 1) : appL a b = some (a ++ b) := by
  unfold appL; rw [if_pos (by omega)]
theorem mem_getD {l : List (List UInt8)} {r : List UInt8} (h : r ∈ l) : ∃ i, i < l.length ∧ l.getD i [] = r := by
  obtain ⟨i, hi, rfl⟩ := List.getElem_of_mem h
  exact ⟨i, hi, by simp [List.getD_eq_getElem?_getD, hi]⟩
def updB (row : List UInt8) (f : Nat → UInt8) (k : Nat) : List UInt8 := (List.range row.length).map fun j => if j < k then f j else co row j
theorem updB_len (row : List UInt8) (f : Nat → UInt8) (k : Nat) : (updB row f k).length = row.length := by simp [updB]
theorem co_updB (row : List UInt8) (f : Nat → UInt8) (k i : Nat) (h : i < row.length) : co (updB row f k) i = if i < k then f i else co row i := by
  unfold updB; rw [co_tab, if_pos h]
theorem updB_zero (row : List UInt8) (f : Nat → UInt8) : updB row f 0 = row := eq_of_co (updB_len _ _ _) fun i => by
  by_cases h : i < row.length
  · rw [co_updB _ _ _ _ h, if_neg (by omega)]
  · rw [co_ge (by rw [updB_len]; omega), co_ge (by omega)]
theorem updB_succ (row : List UInt8) (f : Nat → UInt8) (k : Nat) (h : k < row.length) : (updB row f k).set k (f k) = updB row f (k + 1) := eq_of_co (by simp [updB_len]) fun i => by
  rw [co_set (by rw [updB_len]; omega)]
  by_cases hi : i < row.length
  · rw [co_updB _ _ _ _ hi, co_updB _ _ _ _ hi]
    by_cases hik : i = k
    · rw [if_pos hik, if_pos (by omega), hik]
    · rw [if_neg hik]
      by_cases h2 : i < k
      · rw [if_pos h2, if_pos (by omega)]
      · rw [if_neg h2, if_neg (by omega)]
  · rw [if_neg (by omega), co_ge (by rw [updB_len]; omega), co_ge (by rw [updB_len]; omega)]
theorem updB_end (row : List UInt8) (f : Nat → UInt8) : updB row f row.length = (List.range row.length).map f := by
  unfold updB; exact List.map_congr_left fun j hj => by rw [if_pos (List.mem_range.1 hj)]
theorem idx_updB (row : List UInt8) (f : Nat → UInt8) (k i : Nat) (h : i < row.length) : idx (updB row f k) (i : Int) = some (if i < k then f i else co row i) := by
  rw [idx_co (by rw [updB_len]; exact h), co_updB _ _ _ _ h]
theorem flat_take_le (l : List (List UInt8)) (i : Nat) : (l.take i).flatten.length ≤ l.flatten.length := by
  have h := congrArg List.length (congrArg List.flatten (List.take_append_drop i l))
  rw [List.flatten_append, List.length_append] at h
  omega
theorem Concat_eq (l : List (List UInt8)) (h : l.flatten.length ≤ most) (hl : l.length ≤ most) : slices_Concat_sbytebyte l = some l.flatten := by
  unfold slices_Concat_sbytebyte
  have hmo := most_lt'
  refine bind_of (iterC_count (fun i => (((l.take i).flatten.length : Int), (i : Int))) l.length (l.flatten.length : Int) (by simp) ?_ (by simp)) ?_
  · intro i hi
    have h1 := flat_take_le l (i + 1)
    have e : (l.take (i + 1)).flatten.length = (l.take i).flatten.length + (l.getD i []).length := by rw [rows_snoc hi, List.flatten_append, List.length_append]; simp
    simp only
    rw [if_pos (by omega), idx_getD hi, Option.bind_some, wI_add _ _ (by omega), if_neg (by omega), wI_succ i (by omega), e]
  · unfold slices_Grow
    rw [if_pos (by omega), Option.bind_some]
    refine bind_of (iterC_count (fun i => ((l.take i).flatten, (i : Int))) l.length l.flatten (by simp) ?_ (by simp)) rfl
    intro i hi
    have h1 := flat_take_le l (i + 1)
    have e : (l.take (i + 1)).flatten = (l.take i).flatten ++ l.getD i [] := by rw [rows_snoc hi, List.flatten_append]; simp
    have e2 := congrArg List.length e
    rw [List.length_append] at e2
    simp only
    rw [if_pos (by omega), idx_getD hi, Option.bind_some]
    unfold appL
    rw [if_pos (by omega), Option.bind_some, wI_succ i (by omega), e]
end Gk

/- Arrays: as values, and in blocks behind pointers. No condition. -/
set_option linter.unusedVariables false
set_option linter.unusedSimpArgs false
namespace Gk
open Go Go.RowKit
def ac {α : Type} (enc : α → Value) (l : List α) : Array Value := (l.map enc).toArray
def ag {α : Type} (enc : α → Value) (l : List α) : Value := .agg (ac enc l)
theorem ac_size {α : Type} (enc : α → Value) (l : List α) : (ac enc l).size = l.length := by simp [ac]
theorem ac_set {α : Type} (enc : α → Value) (l : List α) (i : Nat) (x : α) : (ac enc l).setIfInBounds i (enc x) = ac enc (l.set i x) := by
  apply Array.ext'
  simp [ac, List.map_set]
def lenA {α : Type} (n : Nat) (l : List α) : Option Unit := if l.length = n then some () else none
theorem lenA_eq {α : Type} {n : Nat} {l : List α} {u : Unit} (h : lenA n l = some u) : l.length = n := by
  unfold lenA at h; split at h
  · assumption
  · cases h
def Seg (cs : Array Value) (m : Nat) (us : List Value) : Prop := ∀ j, j < us.length → cs[m + j]? = us[j]?
theorem seg_self {α : Type} (enc : α → Value) (l : List α) : Seg (ac enc l) 0 (l.map enc) := fun j _ => by simp [ac]
structure TyA (P : Program) (t e : TypeId) (n : Nat) : Prop where
  und : P.underlying t = some (.array n e)
  agg : ∀ w, (isAgg t).run P w = .ok true w
  size : ∀ w, (Go.sizeOf t).run P w = .ok n w
  esz : ∀ w, (Go.sizeOf e).run P w = .ok 1 w
  eagg : ∀ w, (isAgg e).run P w = .ok false w
section
variable {P : Program} {o : Oper} {f : Nat → Value} {w : World} {x y : Operand} {t e T : TypeId} {g m n : Nat} {cs : Array Value} {u v : Value} {α : Type} {enc : α → Value} {l l' : List α} {i : Int} {a b : α}
theorem run_loadSeg (A : TyA P t e n) (h : Blk w g T cs) {us : List Value} (hs : Seg cs m us) (hl : us.length = n) : (loadVar t ⟨g, m, none⟩).run P w = .ok (.agg us.toArray) w := by
  have := run_loadCells_list (P := P) w ⟨g, m, none⟩ us (fun j v hj => by
    have hlt : j < us.length := (List.getElem?_eq_some_iff.1 hj).1
    rw [add_off, h.cell, hs j hlt]; exact hj)
  rw [hl] at this
  simp [loadVar, A.agg, A.size, this]
theorem q_loadA (ho : o.op = .load t x) (A : TyA P t e n) (hx : ev f x = .pointer (some ⟨g, m, none⟩)) (h : Blk w g T cs) (hs : Seg cs m (l.map enc)) (hl : l.length = n) : Qt P o f w (ag enc l) := by
  intro w' hE
  have := run_loadSeg (w := w') A (h.ext hE) hs (by simpa using hl)
  simp [execOp, ho, hx, Instr.loadAt, Instr.sureAddr, this, ag, ac]
def spl (cs : Array Value) (m : Nat) (us : List Value) : Array Value := (cs.toList.take m ++ us ++ cs.toList.drop (m + us.length)).toArray
theorem stp_storeSeg (ho : o.op = .store t x y) (A : TyA P t e n) (hx : ev f x = .pointer (some ⟨g, m, none⟩)) (hy : ev f y = ag enc l) (hl : l.length = n) (h : Blk w g T cs) (hm : m + n ≤ cs.size) (hc : ∀ x, (enc x).oneCell' = true)
    {K : Value → World → Prop} (hk : ∀ w', Blk w' g T (spl cs m (l.map enc)) → w.grownBy w' (some g) → K undef w') : Stp P o f w K := by
  have hrun := run_storeCells_at (P := P) g m T (l.map enc) 0 cs w h (by simp; omega) (fun v hv => by obtain ⟨x, _, rfl⟩ := List.mem_map.1 hv; exact hc x)
  have hb : Blk (w.setRow g (spl cs m (l.map enc))) g T (spl cs m (l.map enc)) := setRow_heap w g cs _ T _ h
  have hg : w.grownBy (w.setRow g (spl cs m (l.map enc))) (some g) := ⟨rfl, rfl, rfl, by simp [World.setRow], fun k _ hk => setRow_other w g k _ (fun e => hk (by rw [e]))⟩
  refine stp_of_skip (w' := w.setRow g (spl cs m (l.map enc))) ?_ (hk _ hb hg)
  have hsz : (ac enc l).size = n := by rw [ac_size]; exact hl
  simp only [Nat.add_zero] at hrun
  have hrun' : (storeCells ⟨g, m, none⟩ (ac enc l).toList).run P w = .ok () (w.setRow g (spl cs m (l.map enc))) := by simpa [ac, spl] using hrun
  simp [execOp, ho, hx, hy, Instr.storeAt, Instr.sureAddr, storeVar, ag, Value.cells, A.size, hsz, hrun']
theorem spl_all (h : cs.size = l.length) : spl cs 0 (l.map enc) = ac enc l := by
  unfold spl ac
  apply Array.ext'
  simp [List.drop_eq_nil_of_le, h]
theorem stp_storeA (L1 L2 : List Value) (ho : o.op = .store t x y) (A : TyA P t e n) (hx : ev f x = bp g) (hy : ev f y = ag enc l') (hl : l.length = n) (hl' : l'.length = n) (h : Blk w g T (ac enc l)) (hc : ∀ x, (enc x).oneCell' = true)
    {K : Value → World → Prop} (hk : ∀ w', Blk w' g T (ac enc l') → Gr w w' (bp g) → Lift w w' (L1 ++ bp g :: L2) (L1 ++ bp g :: L2) → K undef w') : Stp P o f w K :=
  stp_storeSeg (m := 0) ho A hx hy hl' h (by rw [ac_size]; omega) hc fun w' hB hg => hk w' (by rw [spl_all (by rw [ac_size]; omega)] at hB; exact hB) (Gr.of hg) (Lift.own L1 L2 (Gr.of hg) (Nx.refl _ _))
abbrev bpo (g m : Nat) : Value := .pointer (some ⟨g, m, none⟩)
theorem q_ixA (ho : o.op = .indexAddr t x y) (A : TyA P t e n) (hx : ev f x = bpo g m) (hy : ev f y = i64 i) (hl : l.length = n) (hi : idx l i = some a) : Qa P o f (bpo g (m + i.toNat)) := by
  obtain ⟨h0, h1, _⟩ := idx_some.1 hi
  refine q_ixP (kk := .i64) ho A.und A.esz hx (hy.trans ?_) (by omega)
  show Value.int .i64 i = _
  rw [show ((i.toNat : Nat) : Int) = i by omega]
theorem q_ixA8 {c : UInt8} (ho : o.op = .indexAddr t x y) (A : TyA P t e n) (hx : ev f x = bpo g m) (hy : ev f y = u8 c) (hl : l.length = n) (hi : idx l (c.toNat : Int) = some a) : Qa P o f (bpo g (m + (c.toNat : Int).toNat)) := by
  obtain ⟨h0, h1, _⟩ := idx_some.1 hi
  exact q_ixP (kk := .u8) ho A.und A.esz hx hy (by omega)
theorem q_loadE (ho : o.op = .load e x) (A : TyA P t e n) (hx : ev f x = bpo g (m + i.toNat)) (h : Blk w g T cs) (hs : Seg cs m (l.map enc)) (hi : idx l i = some a) : Qt P o f w (enc a) := by
  obtain ⟨h0, h1, h2⟩ := idx_some.1 hi
  refine q_loadB ho A.eagg hx h ?_
  rw [hs i.toNat (by simpa using h1)]
  simp [h1, h2]
theorem stp_storeE (ho : o.op = .store e x y) (A : TyA P t e n) (hx : ev f x = bpo g (m + i.toNat)) (hy : ev f y = enc b) (h : Blk w g T cs) (hm : m + l.length ≤ cs.size) (hi : idx l i = some a) (hc : (enc b).oneCell' = true)
    {K : Value → World → Prop} (hk : ∀ w', Blk w' g T (cs.setIfInBounds (m + i.toNat) (enc b)) → w.grownBy w' (some g) → K undef w') : Stp P o f w K := by
  obtain ⟨h0, h1, h2⟩ := idx_some.1 hi
  exact stp_storeB ho A.esz hx hy h (by omega) hc hk
theorem stp_storeX (L1 L2 : List Value) (ho : o.op = .store e x y) (A : TyA P t e n) (hx : ev f x = bpo g (0 + i.toNat)) (hy : ev f y = enc b) (h : Blk w g T (ac enc l)) (hi : idx l i = some a) (hc : (enc b).oneCell' = true)
    {K : Value → World → Prop} (hk : ∀ w', Blk w' g T (ac enc (l.set i.toNat b)) → Gr w w' (bp g) → Lift w w' (L1 ++ bp g :: L2) (L1 ++ bp g :: L2) → K undef w') : Stp P o f w K :=
  stp_storeE (m := 0) ho A hx hy h (by rw [ac_size]; omega) hi hc fun w' hB hg => hk w' (by rw [Nat.zero_add, ac_set] at hB; exact hB) (Gr.of hg) (Lift.own L1 L2 (Gr.of hg) (Nx.refl _ _))
theorem q_buildA {z : α} {parts : List (Nat × Operand)} {us : List Value} (ho : o.op = .build t parts.toArray) (A : TyA P t e n) (hz : ∀ w, (zeroValue t).run P w = .ok (ag enc (List.replicate n z)) w) (hp : Parts f parts 0 us) (hus : us = l.map enc) (hl : l.length ≤ n) (h1 : ∀ x, (enc x).cells = #[enc x]) : Qa P o f (ag enc (l ++ List.replicate (n - l.length) z)) := by
  intro w'
  have hparts : (parts.toArray.map fun (i, x) => (i, ev f x)).toList = (us.zipIdx 0).map fun p => (p.2, p.1) := by
    rw [← Parts.eq parts 0 us hp]; simp
  have hf := fill_seq us 0 ((List.replicate n z).map enc) (by subst hus; simp; omega) (fun u hu => by subst hus; obtain ⟨x, _, rfl⟩ := List.mem_map.1 hu; exact h1 x)
  have hf' : Instr.fill (fun i => some (i * 1, 1)) (ac enc (List.replicate n z)) ((us.zipIdx 0).map fun p => (p.2, p.1)) = some (ac enc (l ++ List.replicate (n - l.length) z)) := by
    unfold ac at hf ⊢
    rw [hf]
    subst hus
    simp
  have hrun : (Instr.build t (parts.toArray.map fun (i, x) => (i, ev f x))).run P w' = .ok (ag enc (l ++ List.replicate (n - l.length) z)) w' := by
    unfold Instr.build
    simp only [Sem.run_bind, hz, Result.andThen_ok, Sem.run_pure, run_underlying A.und, A.esz, hparts]
    show Sem.run P (match Instr.fill (fun i => some (i * 1, 1)) (ac enc (List.replicate n z)) ((us.zipIdx 0).map fun p => (p.2, p.1)) with | some cells => pure (Value.agg cells) | x => stuck "build: a part of the wrong size") w' = _
    rw [hf']; rfl
  simp only [execOp, ho, Sem.run_bind, hrun, Result.andThen_ok, Sem.run_pure]
theorem q_buildAF {z : α} {parts : List (Nat × Operand)} {us : List Value} (ho : o.op = .build t parts.toArray) (A : TyA P t e n) (hz : ∀ w, (zeroValue t).run P w = .ok (ag enc (List.replicate n z)) w) (hp : Parts f parts 0 us) (hus : us = l.map enc) (hl : l.length = n) (h1 : ∀ x, (enc x).cells = #[enc x]) : Qa P o f (ag enc l) := by
  have := q_buildA (l := l) ho A hz hp hus (Nat.le_of_eq hl) h1
  rwa [hl, Nat.sub_self, List.replicate_zero, List.append_nil] at this
theorem q_buildA0 {z : α} {parts : List (Nat × Operand)} {us : List Value} (ho : o.op = .build t parts.toArray) (A : TyA P t e n) (hz : ∀ w, (zeroValue t).run P w = .ok (ag enc (List.replicate n z)) w) (hp : Parts f parts 0 us) (hus : us = l.map enc) (hl : l.length = 0) (h1 : ∀ x, (enc x).cells = #[enc x]) : Qa P o f (ag enc (List.replicate n z)) := by
  have := q_buildA (l := l) ho A hz hp hus (by omega) h1
  have h0 := List.eq_nil_of_length_eq_zero hl
  subst h0
  simpa using this
end
theorem one_u8 (x : UInt8) : (u8 x).oneCell' = true := rfl
theorem cel_u8 (x : UInt8) : (u8 x).cells = #[u8 x] := rfl
section
variable {P : Program} {o : Oper} {f : Nat → Value} {w : World} {x y : Operand} {t t' : TypeId} {k : IntKind}
theorem q_not8 {a : UInt8} (ho : o.op = .unOp .xor t x) (hx : ev f x = u8 a) : Qa P o f (u8 ((255 : UInt8) ^^^ a)) := by
  intro w
  have h := back_u8 ((255 : UInt8) ^^^ a)
  rw [UInt8.toBitVec_xor, ← bv_u8, ← bv_u8] at h
  unfold execOp; rw [ho]; dsimp only; rw [hx]; exact congrArg (fun n : Int => (Result.ok (Next.value (Value.int .u8 n)) w : Result Next)) h
theorem q_not64 {a : UInt64} (ho : o.op = .unOp .xor t x) (hx : ev f x = u64 a) : Qa P o f (u64 ((18446744073709551615 : UInt64) ^^^ a)) := by
  intro w
  have h := back_u64 ((18446744073709551615 : UInt64) ^^^ a)
  rw [UInt64.toBitVec_xor, ← bv_u64, ← bv_u64] at h
  unfold execOp; rw [ho]; dsimp only; rw [hx]; exact congrArg (fun n : Int => (Result.ok (Next.value (Value.int .u64 n)) w : Result Next)) h
end
section
variable {P : Program} {fn : Func} {n : Nat} {R : Ending → World → Prop} {f : Nat → Value} {w : World} {t e T : TypeId} {a g m : Nat} {α : Type} {enc : α → Value} {l : List α}
end
end Gk

/- Cuts with three numbers; results that are read and not owned; rows that are put behind rows; rows that grow in their place. No condition. -/
set_option linter.unusedVariables false
set_option linter.unusedSimpArgs false
namespace Gk
open Go Go.RowKit
def subL3 {α : Type} (l : List α) (lo hi mx : Int) : Option (List α) := if 0 ≤ lo ∧ lo ≤ hi ∧ hi ≤ mx ∧ mx ≤ l.length then some ((l.take hi.toNat).drop lo.toNat) else none
theorem subL3_some {α : Type} {l m : List α} {lo hi mx : Int} : subL3 l lo hi mx = some m ↔ (0 ≤ lo ∧ lo ≤ hi ∧ hi ≤ mx ∧ mx ≤ l.length) ∧ (l.take hi.toNat).drop lo.toNat = m := by
  unfold subL3
  by_cases h : 0 ≤ lo ∧ lo ≤ hi ∧ hi ≤ mx ∧ mx ≤ l.length
  · rw [if_pos h]; simp [h]
  · rw [if_neg h]; simp [h]
section
variable {P : Program} {o : Oper} {f : Nat → Value} {w : World} {L : List Value}
theorem q_slice3 {α : Type} {R : World → List Value → Value → α → Prop} {v z : Value} {l m : List α} {x y y' : Operand} {t e : TypeId} {bytes : Nat} {lo : Option Operand} {a b c : Int}
    (ho : o.op = .slice t x lo (some y) (some y')) (T : TyS P t e z bytes) (hx : ev f x = v) (h : SlK R w L v l)
    (hlo : match lo with | none => a = 0 | some q => ev f q = i64 a) (hy : ev f y = i64 b) (hy' : ev f y' = i64 c) (hs : subL3 l a b c = some m) : Qa P o f (subW v a.toNat b.toNat c.toNat) := by
  intro w'
  obtain ⟨p, cap, rfl, hc⟩ := h.shape
  obtain ⟨⟨h0, h1, h2, h3⟩, _⟩ := subL3_some.1 hs
  have hm : ∀ k w, (Instr.sliceBound (i64 c) cap k).run P w = .ok c.toNat w := fun k w => run_bound rfl (by omega) (by omega) w
  have hb : ∀ k w, (Instr.sliceBound (i64 b) c.toNat k).run P w = .ok b.toNat w := fun k w => run_bound rfl (by omega) (by omega) w
  have ha : ∀ k w, (Instr.sliceBound (i64 a) b.toNat k).run P w = .ok a.toNat w := fun k w => run_bound rfl (by omega) (by omega) w
  cases lo with
  | none =>
    dsimp only at hlo; subst hlo
    simp [execOp, ho, hx, hy, hy', Instr.sliceAt, run_underlying T.sl, Instr.slice, Instr.sliceBounds, ty_size T, hb, hm, subW]
  | some q =>
    dsimp only at hlo
    simp [execOp, ho, hx, hlo, hy, hy', Instr.sliceAt, run_underlying T.sl, Instr.slice, Instr.sliceBounds, ty_size T, ha, hb, hm, subW]
theorem Sl.cut3 {v : Value} {us : List Value} (h : Sl w L v us) (lo hi mx : Nat) (h1 : lo ≤ hi) (h2 : hi ≤ mx) (h3 : mx ≤ us.length) : Sl w L (subW v lo hi mx) ((us.take hi).drop lo) := by
  obtain ⟨p, cap, rfl, hc, hne⟩ := h
  have hlen : ((us.take hi).drop lo).length = hi - lo := by simp; omega
  refine ⟨_, mx - lo, by unfold subW; rw [hlen], by rw [hlen]; omega, fun hn => ?_⟩
  have h0 : 0 < hi - lo := by rw [← hlen]; exact List.length_pos_iff.2 hn
  obtain ⟨b, off, rfl, ha, hr⟩ := hne (fun e => by subst e; simp at h3; omega)
  refine ⟨b, off + lo, ?_, ha, fun i hi' => ?_⟩
  · rw [if_neg (by omega)]; simp [add_off]
  · rw [hlen] at hi'
    have := hr (lo + i) (by omega)
    rw [Nat.add_assoc, this]
    simp
theorem SlK.cut3 {α : Type} {R : World → List Value → Value → α → Prop} {v : Value} {l m : List α} (h : SlK R w L v l) {lo hi mx : Int} (hs : subL3 l lo hi mx = some m) : SlK R w L (subW v lo.toNat hi.toNat mx.toNat) m := by
  obtain ⟨us, hu, hl, he⟩ := h
  obtain ⟨⟨h0, h1, h2, h3⟩, rfl⟩ := subL3_some.1 hs
  refine ⟨_, hu.cut3 lo.toNat hi.toNat mx.toNat (by omega) (by omega) (by omega), by simp [hl], fun i a b => ?_⟩
  simp only [List.getElem_drop, List.getElem_take]
  exact he _ _ _
theorem oB_add {p : Option Addr} {n n' c c' d : Nat} {q : Prop} [Decidable q] {k : Nat} (hc : 0 < c) (h : oB (.slice (if q then p else p.map (·.add d)) n' c') = some k) : oB (.slice p n c) = some k := by
  cases c with
  | zero => omega
  | succ c =>
    cases p with
    | none => split at h <;> cases h
    | some a =>
      cases c' with
      | zero => split at h <;> simp [oB] at h
      | succ c' =>
        split at h
        · exact h
        · simp only [Option.map_some, oB] at h ⊢
          rw [← h]
          unfold Addr.add
          split <;> rfl
theorem hs_cut3 {α : Type} {R : World → List Value → Value → α → Prop} {v : Value} {l m : List α} (h : SlK R w L v l) {lo hi mx : Int} (hs : subL3 l lo hi mx = some m) : ∀ k, Hs (subW v lo.toNat hi.toNat mx.toNat) k → Hs v k := by
  intro k hk
  obtain ⟨p, cap, rfl, hc⟩ := h.shape
  obtain ⟨⟨h0, h1, h2, h3⟩, _⟩ := subL3_some.1 hs
  have hk := hs_sl hk
  by_cases h4 : 0 < cap
  · exact .inl (oB_add h4 hk)
  · rw [show mx.toNat - lo.toNat = 0 by omega] at hk
    cases hp : (if mx.toNat = lo.toNat then p else p.map (·.add lo.toNat)) <;> rw [hp] at hk <;> cases hk
theorem SlK.avail {α : Type} {enc : α → Value} {v : Value} {l : List α} (h : SlK (Sc enc) w [] v l) (L : List Value) (ha : ∀ k, Hs v k → Av L k) : SlK (Sc enc) w L v l := by
  obtain ⟨us, ⟨p, cap, rfl, hc, hne⟩, hl, he⟩ := h
  refine ⟨us, ⟨p, cap, rfl, hc, fun hn => ?_⟩, hl, he⟩
  obtain ⟨b, off, rfl, _, hr⟩ := hne hn
  refine ⟨b, off, rfl, ha b (.inl ?_), hr⟩
  have h1 : 0 < us.length := List.length_pos_iff.2 hn
  cases cap with
  | zero => omega
  | succ c => rfl
end
section
variable {P : Program} {f : Nat → Value} {w : World} {o : Oper}
end
end Gk

/- Functions that turn what a pointer points to: what they keep. No condition. -/
set_option linter.unusedVariables false
set_option linter.unusedSimpArgs false
namespace Gk
open Go Go.RowKit
structure ExG (S : List Value) (w w' : World) : Prop where
  os : w'.os = w.os
  output : w'.output = w.output
  size : w.heap.size ≤ w'.heap.size
  blk : ∀ k, k < w.heap.size → Av S k → w'.heap[k]? = w.heap[k]?
def NS (S : List Value) (w : World) (v : Value) : Prop := ∀ k, Hs v k → w.heap.size ≤ k ∨ ¬ Av S k
section
variable {S : List Value} {w0 w w' : World} {v v' : Value}
theorem ExG.refl (S : List Value) (w : World) : ExG S w w := ⟨rfl, rfl, Nat.le_refl _, fun _ _ _ => rfl⟩
theorem ExG.trans (h : ExG S w0 w) (x : Ext w w') : ExG S w0 w' :=
  ⟨x.os.trans h.os, x.output.trans h.output, Nat.le_trans h.size x.size, fun k hk ha => (x.blk k (Nat.lt_of_lt_of_le hk h.size)).trans (h.blk k hk ha)⟩
theorem ExG.grown (h : ExG S w0 w) (hg : Gr w w' v) (hn : NS S w0 v) : ExG S w0 w' := by
  obtain ⟨row, hg, hr⟩ := hg
  refine ⟨hg.os.trans h.os, hg.output.trans h.output, Nat.le_trans h.size hg.size, fun k hk ha => ?_⟩
  refine (hg.block k (Nat.lt_of_lt_of_le hk h.size) (fun e => ?_)).trans (h.blk k hk ha)
  rcases hn k (hr k e.symm) with h1 | h1
  · omega
  · exact h1 ha
theorem NS.ext (h : ExG S w0 w) (hn : Nw w v) : NS S w0 v := fun k hk => .inl (Nat.le_trans h.size (hn k hk))
theorem NS.own {g : Nat} {S' : List Value} : NS (bp g :: S') w (bp g) := fun k hk => .inr (fun h => h.1 hk)
theorem Lift.exg0 (h : ExG S w0 w) : Lift w0 w S [] := ⟨fun k o ho _ ha => (h.blk k (lt_of_get ho) ha).trans ho, fun _ _ _ => trivial⟩
variable {b u : Value} {e T : TypeId} {g : Nat} {cs : Array Value}
theorem av_one {k : Nat} (h : ¬ Hs b k) : Av [b] k := ⟨h, trivial⟩
theorem Blk.otherX (h : Blk w g T cs) (x : ExG [b] w w') (hq : Nq (bp g) b) : Blk w' g T cs := by
  unfold Blk; rw [x.blk g h.lt (av_one (hq g (hs_bp' g)))]; exact h
theorem Lift.ownX (L1 L2 : List Value) (x : ExG [b] w w') : Lift w w' (L1 ++ b :: L2) (L1 ++ b :: L2) :=
  ⟨fun k o ho _ ha => by
    obtain ⟨_, h2, _⟩ := av_append.1 ha
    exact (x.blk k (lt_of_get ho) (av_one h2)).trans ho, fun _ _ h => h⟩
theorem Ext.grownX (h : Ext w0 w) (x : ExG [b] w w') (hn : Nw w0 b) : Ext w0 w' :=
  ⟨x.os.trans h.os, x.output.trans h.output, Nat.le_trans h.size x.size, fun k hk =>
    (x.blk k (Nat.lt_of_lt_of_le hk h.size) (av_one (fun e => by have := hn k e; omega))).trans (h.blk k hk)⟩
end
end Gk

/- Facts of this seat's program: its array types. No condition. -/
set_option linter.unusedVariables false
namespace Gk
open Go Go.Proofs
theorem A64 : TyA Try.prog 64 5 256 := ⟨Try.underlying64, Try.isAgg64, Try.sizeOf64, Try.sizeOf5, Try.isAgg5⟩
theorem A76 : TyA Try.prog 76 5 16 := ⟨Try.underlying76, Try.isAgg76, Try.sizeOf76, Try.sizeOf5, Try.isAgg5⟩
set_option maxRecDepth 100000 in
theorem Z76 : ∀ w, (zeroValue 76).run Try.prog w = .ok (ag u8 (List.replicate 16 (0 : UInt8))) w := fun w => by rw [Try.zeroValue76]; rfl
theorem A77 : TyA Try.prog 77 5 16 := ⟨Try.underlying77, Try.isAgg77, Try.sizeOf77, Try.sizeOf5, Try.isAgg5⟩
set_option maxRecDepth 100000 in
theorem Z77 : ∀ w, (zeroValue 77).run Try.prog w = .ok (ag u8 (List.replicate 16 (0 : UInt8))) w := fun w => by rw [Try.zeroValue77]; rfl
theorem A87 : TyA Try.prog 87 5 4 := ⟨Try.underlying87, Try.isAgg87, Try.sizeOf87, Try.sizeOf5, Try.isAgg5⟩
set_option maxRecDepth 100000 in
theorem Z87 : ∀ w, (zeroValue 87).run Try.prog w = .ok (ag u8 (List.replicate 4 (0 : UInt8))) w := fun w => by rw [Try.zeroValue87]; rfl
end Gk

/- Regions in which several operations that act may come up, in whatever order: a tree of orders. No condition. -/
set_option linter.unusedVariables false
set_option linter.unusedSimpArgs false
namespace Gk
open Go
inductive Tr where
  | fin
  | br (i : Nat) (sch : List (Nat × Nat)) (t rest : Tr)
def Tr.len : Tr → Nat
  | .fin => 0
  | .br _ sch t _ => t.len + sch.length + 1
def Tr.roots : Tr → List Nat
  | .fin => []
  | .br i _ _ rest => i :: rest.roots
def Tr.isFin : Tr → Bool
  | .fin => true
  | _ => false
def okS (ops : Array Oper) (qs : List Nat) : Tr → Nat → Array Bool → Bool
  | .fin, _, _ => true
  | .br i sch t rest, m, listed =>
    Nat.beq (t.len + sch.length + 1) m && (schOKe ops qs (fun l => if t.isFin then (Region.ready .any ops l).isEmpty else (Region.ready .any ops l == t.roots && okS ops qs t t.len l)) sch (listed.setIfInBounds i true) && okS ops qs rest m listed)
def wt (t : Tr) (A B : Prop) : Prop := match t with | .fin => A | .br .. => B
def wr (P : Program) (ops : Array Oper) (qs : List Nat) (K : (Nat → Value) → World → Prop) : Tr → (Nat → Value) → World → Prop
  | .fin, _, _ => True
  | .br i sch t rest, f, w => stepT P ops qs i (ws P ops qs (fun f w => wt t (K f w) (wr P ops qs K t f w)) sch) f w ∧ wr P ops qs K rest f w
theorem tree_ok {P : Program} {n : Nat} {ops : Array Oper} {qs : List Nat} {K : (Nat → Value) → World → Prop} (hok : okRegion n ops = true) (hns : Region.noSelect ops = true) :
    ∀ (t : Tr) (m : Nat) (listed : Array Bool) (f : Nat → Value) (w : World), Closed .any ops listed → okS ops qs t (m + 1) listed = true → wr P ops qs K t f w →
      ∀ k ∈ t.roots, k ∈ Region.ready .any ops listed → wpOp P ops (fun e a w => e = .normal ∧ At n K a w) k (fun a' w' => (Ext w w' ∨ clearOf .any ops qs k = true) ∧ wpAnyE P .any ops (fun e a w => e = .normal ∧ At n K a w) Ext qs m (listed.setIfInBounds k true) a' w') (fr n f) w
  | .fin, _, _, _, _, _, _, _, k, hk, _ => by simp [Tr.roots] at hk
  | .br i sch t rest, m, listed, f, w, hcl, hs, h, k, hk, hr => by
    simp only [okS, Bool.and_eq_true] at hs
    obtain ⟨hl, hsch, hrest⟩ := hs
    have hl' : t.len + sch.length = m := by have := Nat.eq_of_beq_eq_true hl; omega
    unfold wr at h
    rcases List.mem_cons.1 hk with rfl | hk
    · have h1 := h.1
      unfold stepT at h1
      unfold Go.wpOp
      cases ho : ops[k]? with
      | none => rw [ho] at h1; exact h1.elim
      | some o =>
        rw [ho] at h1
        dsimp only at h1 ⊢
        have hmem : o ∈ ops := Array.mem_of_getElem? ho
        have hall := List.all_eq_true.1 hok o (Array.mem_toList_iff.2 hmem)
        simp only [Bool.and_eq_true] at hall
        have hwant := wantF_fr n ops f o hall.2
        have hcl' : Closed .any ops (listed.setIfInBounds k true) := by
          obtain ⟨_, o', ho', hall'⟩ := mem_ready.1 hr
          exact hcl.set ho' hall'
        have key : ∀ f w, ws P ops qs (fun f w => wt t (K f w) (wr P ops qs K t f w)) sch f w → wpAnyE P .any ops (fun e a w => e = .normal ∧ At n K a w) Ext qs m (listed.setIfInBounds k true) (fr n f) w := fun f w hw => by
          have := wpAnyE_of_wse (K0 := K) (m := t.len) hok hns (fun listed f w hcl2 hf hk2 => by
            cases t with
            | fin =>
              simp only [Tr.isFin, if_true] at hf
              rw [List.isEmpty_iff] at hf
              exact ⟨hf, rfl, At.mk hk2⟩
            | br i2 sch2 t2 rest2 =>
              simp only [Tr.isFin, Bool.false_eq_true, if_false, Bool.and_eq_true] at hf
              obtain ⟨hrd, hok2⟩ := hf
              have hrd' : Region.ready .any ops listed = (Tr.br i2 sch2 t2 rest2).roots := by simpa using hrd
              have ih := tree_ok hok hns (.br i2 sch2 t2 rest2) (t2.len + sch2.length) listed f w hcl2 hok2 hk2
              show wpAnyE P .any ops _ Ext qs (t2.len + sch2.length + 1) listed (fr n f) w
              refine ⟨fun h0 => ?_, fun j hj => ih j (by rw [← hrd']; exact hj) hj⟩
              rw [hrd'] at h0
              simp [Tr.roots] at h0) sch (listed.setIfInBounds k true) f w hcl' hsch hw
          rwa [hl'] at this
        by_cases hw : wantF ops f o = true
        · rw [if_pos hw] at h1
          rw [if_pos (hwant.trans hw)]
          exact .inl (Stp.wp hall.1 h1 fun v w' hv => ⟨hv.1, key _ _ hv.2⟩)
        · rw [if_neg hw] at h1
          have hwf : Region.wanted o (yielded ops (fr n f).tmps) = false := hwant.trans (by simpa using hw)
          rw [if_neg (by rw [hwf]; simp)]
          rw [fr_put _ _ _ _ (okOp.dst hall.1)]
          exact ⟨.inl (Ext.refl w), key _ _ h1⟩
    · exact tree_ok hok hns rest m listed f w hcl hrest h.2 k hk hr
theorem wr_mono {P : Program} {ops : Array Oper} {qs : List Nat} {K K' : (Nat → Value) → World → Prop} (hk : ∀ f w, K f w → K' f w) : ∀ (t : Tr) (f : Nat → Value) (w : World), wr P ops qs K t f w → wr P ops qs K' t f w
  | .fin, _, _, _ => trivial
  | .br i sch t rest, f, w, h => by
    unfold wr at h ⊢
    refine ⟨?_, wr_mono hk rest f w h.2⟩
    have h1 := h.1
    have key : ∀ f w, ws P ops qs (fun f w => wt t (K f w) (wr P ops qs K t f w)) sch f w → ws P ops qs (fun f w => wt t (K' f w) (wr P ops qs K' t f w)) sch f w :=
      ws_mono (fun f w h2 => by
        cases t with
        | fin => exact hk f w h2
        | br i2 sch2 t2 rest2 => exact wr_mono hk (.br i2 sch2 t2 rest2) f w h2) sch
    unfold stepT at h1 ⊢
    cases ho : ops[i]? with
    | none => rw [ho] at h1; exact h1
    | some o =>
      rw [ho] at h1
      dsimp only at h1 ⊢
      by_cases hw : wantF ops f o = true
      · rw [if_pos hw] at h1 ⊢
        exact Stp.mono h1 fun v w' h' => ⟨h'.1, key _ _ h'.2⟩
      · rw [if_neg hw] at h1 ⊢
        exact key _ _ h1
def schT (ops : Array Oper) (qs : List Nat) (t : Tr) (listed : Array Bool) : Bool := Region.ready .any ops listed == t.roots && (okS ops qs t t.len listed && !t.isFin)
section
variable {P : Program} {ro : Option Nat} {n : Nat} {Q : Exit → (Nat → Value) → World → Prop} {f : Nat → Value} {w : World}
theorem W_drawT {id : Nat} {l : List Oper} (qs : List Nat) (sch : List (Nat × Nat)) (t : Tr) (hm : P.follows .mixedOrders = true) (hok : okRegion n l.toArray = true) (hns : Region.noSelect l.toArray = true)
    (hlen : Nat.beq (t.len + sch.length) l.toArray.size = true) (hs : schOKe l.toArray qs (schT l.toArray qs t) sch (Array.replicate l.toArray.size false) = true)
    (h : ws P l.toArray qs (fun f w => wr P l.toArray qs (Q .normal) t f w) sch f w.drew) : W (ro := ro) P n (.region id l.toArray true) Q f w := by
  have h0 : ws P l.toArray qs (fun f w => wr P l.toArray qs (fun f w => ∃ f', fr n f = fr n f' ∧ Q .normal f' w) t f w) sch f w.drew := ws_mono (fun f w q => wr_mono (fun f _ q => ⟨f, rfl, q⟩) t f w q) _ _ _ h
  have h1 := wpAnyE_of_wse (K0 := fun f w => ∃ f', fr n f = fr n f' ∧ Q .normal f' w) (m := t.len) hok hns (fun listed f w hcl hf hk => by
    simp only [schT, Bool.and_eq_true] at hf
    obtain ⟨hrd, hok2, hnf⟩ := hf
    have hrd' : Region.ready .any l.toArray listed = t.roots := by simpa using hrd
    cases t with
    | fin => simp [Tr.isFin] at hnf
    | br i2 sch2 t2 rest2 =>
      have ih := tree_ok hok hns (.br i2 sch2 t2 rest2) (t2.len + sch2.length) listed f w hcl hok2 hk
      show wpAnyE P .any l.toArray _ Ext qs (t2.len + sch2.length + 1) listed (fr n f) w
      refine ⟨fun h0 => ?_, fun j hj => ih j (by rw [← hrd']; exact hj) hj⟩
      rw [hrd'] at h0
      simp [Tr.roots] at h0) sch _ f _ (Closed.none _ _ _) hs h0
  rw [Nat.eq_of_beq_eq_true hlen] at h1
  have h2 := any_in (ro := ro) (m := 0) no_out (okRegion.noDefer hok) _ _ _ _ (wpAny_of_E _ _ _ _ h1)
  refine Code.wpIn_mono ?_ (wpIn_region_any (id := id) hm h2)
  rintro e a w' ⟨rfl, f', rfl, f'', he, hk⟩
  exact ⟨f'', he, hk⟩
theorem wr_br {ops : Array Oper} {qs : List Nat} {K : (Nat → Value) → World → Prop} {i : Nat} {sch : List (Nat × Nat)} {t rest : Tr}
    (h1 : ws P ops qs (fun f w => wt t (K f w) (wr P ops qs K t f w)) ((i, 2) :: sch) f w) (h2 : wr P ops qs K rest f w) : wr P ops qs K (.br i sch t rest) f w := by
  unfold wr
  exact ⟨stepT_of_ws (fun _ _ h => h) h1, h2⟩
theorem wt_fin {A B : Prop} (h : A) : wt .fin A B := h
theorem wt_br {i : Nat} {sch : List (Nat × Nat)} {t rest : Tr} {A B : Prop} (h : B) : wt (.br i sch t rest) A B := h
end
end Gk

/- Regions in whose orders what is read from blocks that were there stands beside what writes to new ones. No condition. (Made out of Ga, Gb, Gg, Gt by a program: what a load is let stand is that the blocks below B are as they were.) -/
set_option linter.unusedVariables false
set_option linter.unusedSimpArgs false
namespace Gk
open Go Go.RowKit
section
variable {B : Nat}
section
variable {P : Program} {ro : Option Nat} {n : Nat} {Q : Exit → (Nat → Value) → World → Prop} {f : Nat → Value} {w : World}
end
section
variable {P : Program} {ro : Option Nat} {n : Nat} {Q : Exit → (Nat → Value) → World → Prop} {f : Nat → Value} {w : World}
end
section
variable {P : Program} {ops : Array Oper} {qs : List Nat} {K : (Nat → Value) → World → Prop} {r : List (Nat × Nat)} {i : Nat} {o : Oper} {f : Nat → Value} {w : World}
end
section
variable {P : Program} {ops : Array Oper} {qs : List Nat} {K : (Nat → Value) → World → Prop} {r : List (Nat × Nat)} {i : Nat} {o : Oper} {f : Nat → Value} {w : World} {d : Nat} {v : Value}
end
end
end Gk

/- slices.Clone walks, over bytes and over numbers. No condition but the length. -/
set_option linter.unusedVariables false
set_option linter.unusedSimpArgs false
namespace Gk
open Go Go.Proofs
def slices_Clone_sbytebyte (a0 : List UInt8) : Option (List UInt8) := appL [] a0
set_option maxRecDepth 100000 in
set_option maxHeartbeats 8000000 in
theorem slices_Clone_sbytebyte_calls (a0 : List UInt8) (p0 : Value) (r : List UInt8) (w0 : World) (hp0 : By w0 [] p0 a0) (H : slices_Clone_sbytebyte a0 = some r) :
    Calls Try.prog 46 [p0].toArray w0 (fun e w' => ∃ u0 : Value, e = .returned u0 ∧ Ext w0 w' ∧ Nw w0 u0 ∧ OwK (Sc u8) w' [] 5 u0 r) := by
  unfold slices_Clone_sbytebyte at H; have hE : Ext w0 w0 := Ext.refl w0; obtain ⟨pp, cap, rfl, hcap⟩ := SlK.shape hp0; refine calls_W (n := 8) Try.func46 rfl rfl rfl ?_; refine W_seq ?_; refine W_reg (by kernel_rfl) ?_; refine wla rfl rfl (q_assign (v := .slice none 0 0) rfl rfl) ?_; refine wl_nil ?_; refine W_th ?_; refine W_seq ?_; refine W_seq ?_; refine W_reg (by kernel_rfl) ?_; refine wla rfl rfl (q_move (v := .slice pp a0.length cap) rfl rfl) ?_; refine wla rfl rfl (q_eqSl rfl T22.sl rfl rfl) ?_; refine wl_nil ?_; refine W_th ?_; refine W_cond _ rfl rfl (fun hb => ?_) (fun hb => ?_)
  · have h0 : a0 = [] := by
      obtain ⟨us, ⟨p, cap', hv, _, hne⟩, hl, _⟩ := hp0; cases us with
      | nil => exact List.eq_nil_of_length_eq_zero hl.symm
      | cons u us =>
        obtain ⟨b, off, rfl, _⟩ := hne (by simp); simp only [Value.slice.injEq] at hv; rw [hv.1] at hb; cases hb
    subst h0
    obtain rfl : r = [] := by simpa [appL] using H.symm
    refine W_seq ?_; refine W_reg (by kernel_rfl) ?_; refine wla rfl rfl (q_assign (v := .slice none 0 0) rfl rfl) ?_; refine wl_nil ?_; refine W_th ?_; refine W_ret ?_; refine rt1 (.slice none 0 0) rfl rfl rfl rfl ?_; exact ⟨_, rfl, hE, Nw.nil _, OwK.nil _ _ _ _⟩
  refine W_skip ?_; refine W_th ?_; refine W_seq ?_; refine W_reg (by kernel_rfl) ?_; refine wls rfl rfl (stp_lit (L := []) (R := (Sc u8)) [] ([] : List UInt8) rfl T22 rfl (by exact trivial) rfl (litC u8 oneC_u8 (us := []) (l := ([] : List UInt8)) rfl) rfl (litS u8 (us := []) (l := ([] : List UInt8)) rfl) ?_); intro v1 w1 o1 n1 g1 l1; have e1 := hE.trans (grown_ext g1); refine wla rfl rfl (q_move (v := .slice pp a0.length cap) rfl rfl) ?_; refine wls rfl rfl (stp_append (R := (Sc u8)) (v := v1) (u := .slice pp a0.length cap) (Sc.stab _) [] [] rfl T22 rfl rfl o1 (hp0.lift (Lift.ext e1 _)) (fun _ _ h => h) H oc_u8 ?_); intro v2 w2 o2 g2 nx2 l2; refine wla rfl rfl (q_assign (v := v2) rfl rfl) ?_; refine wl_nil ?_; refine W_th ?_; refine W_ret ?_; refine rt1 v2 rfl rfl rfl rfl ?_; exact ⟨v2, rfl, e1.grown g2 n1, Nw.nxt e1 n1 nx2, o2.weak (Sc.stab _) (fun _ _ => trivial)⟩
end Gk

/- Printed by gen.py: for each Go function a pure function, and that the Go code comes to it. No condition beside the equation that says what the pure function gives. -/
set_option linter.unusedVariables false
set_option linter.unusedSimpArgs false
namespace Gk
open Go Go.Proofs
noncomputable def word_Bits_uint64  : Option Int :=
((iterC (fun s1 : Int × UInt64 =>
(if s1.2 = (0 : UInt64) then some (.inr s1.1)
else some (.inl ((wI (s1.1 + 1)), (shr64 s1.2 1))))) (0, ((18446744073709551615 : UInt64) ^^^ (UInt64.ofInt 0)))).bind fun x1 => some x1)
set_option maxRecDepth 100000 in
set_option maxHeartbeats 8000000 in
theorem word_Bits_uint64_calls  (r : Int) (w0 : World) (H : word_Bits_uint64 = some r) :
    Calls Try.prog 79 [].toArray w0 (fun e w' => e = .returned (i64 r) ∧ Ext w0 w') := by
  have hE : Ext w0 w0 := Ext.refl w0; unfold word_Bits_uint64 at H; refine calls_W (n := 12) Try.func79 rfl rfl rfl ?_; refine W_seq ?_; refine W_reg (by kernel_rfl) ?_; refine wla rfl rfl (q_assign (v := (i64 0)) rfl rfl) ?_; refine wl_nil ?_; refine W_th ?_; refine W_seq ?_; refine W_reg (by kernel_rfl) ?_; refine wla rfl rfl (q_assign (v := (i64 0)) rfl rfl) ?_; refine wl_nil ?_; refine W_th ?_; refine W_seq ?_; refine W_seq ?_; refine W_reg (by kernel_rfl) ?_; refine wla rfl rfl (q_cvt64I rfl rfl rfl rfl) ?_; refine wla rfl rfl (q_not64 rfl rfl) ?_; refine wla rfl rfl (q_assign (v := (u64 (((18446744073709551615 : UInt64) ^^^ (UInt64.ofInt 0))))) rfl rfl) ?_; refine wl_nil ?_; refine W_th ?_; obtain ⟨x1, G1, H⟩ := bsi H; refine W_mid (fun f w => f 1 = (i64 x1) ∧ f 12 = undef ∧ Ext w0 w) ?_ ?_
  · refine W_block ?_; refine W_loop (fun s1 f w => f 1 = (i64 s1.1) ∧ f 2 = (u64 s1.2) ∧ f 12 = undef ∧ Ext w0 w) G1 ?_ ?_
    · exact ⟨rfl, rfl, rfl, hE⟩
    rintro s1 _ _ w2 ⟨s1_2, s2_2, s12_2, hE2⟩ H1 hr1; refine W_seq ?_; refine W_seq ?_; refine W_reg (by kernel_rfl) ?_; refine wla rfl rfl (q_move (v := (u64 s1.2)) rfl s2_2) ?_; refine wla rfl rfl (q_ne64 rfl rfl (cst64 (0 : UInt64) rfl)) ?_; refine wl_nil ?_; refine W_th ?_; refine W_cond _ rfl rfl (fun hb3 => ?_) (fun hb3 => ?_)
    · replace H1 := (if_neg (ndec_t hb3)).symm.trans H1; refine W_skip ?_; refine W_th ?_; refine W_seq ?_; refine W_block ?_; refine W_reg (by kernel_rfl) ?_; refine wla rfl rfl (q_move (v := (i64 s1.1)) rfl s1_2) ?_; refine wla rfl rfl (q_addI rfl rfl rfl) ?_; refine wla rfl rfl (q_assign (v := (i64 ((wI (s1.1 + 1))))) rfl rfl) ?_; refine wl_nil ?_; refine bk_n ?_; refine W_th ?_; refine W_reg (by kernel_rfl) ?_; refine wla rfl rfl (q_move (v := (u64 s1.2)) rfl s2_2) ?_; refine wla rfl rfl (q_shr64 1 rfl rfl rfl rfl) ?_; refine wla rfl rfl (q_assign (v := (u64 ((shr64 s1.2 1)))) rfl rfl) ?_; refine wl_nil ?_; obtain rfl := osi H1; exact ⟨_, rfl, rfl, rfl, s12_2, hE2⟩
    replace H1 := (if_pos (ndec_f hb3)).symm.trans H1; refine W_exit ?_; refine th_x ?_; obtain rfl := osi H1; obtain rfl := hr1 _ rfl; refine th_x ?_; refine bk_x ?_; exact ⟨s1_2, s12_2, hE2⟩
  rintro _ w5 ⟨s1_5, s12_5, hE5⟩; refine W_th ?_; refine W_seq ?_; refine W_reg (by kernel_rfl) ?_; refine wla rfl rfl (q_move (v := (i64 x1)) rfl s1_5) ?_; refine wla rfl rfl (q_assign (v := (i64 x1)) rfl rfl) ?_; refine wl_nil ?_; refine W_th ?_; refine W_ret ?_; obtain rfl := osi H; refine rt1 (i64 x1) rfl rfl rfl s12_5 ?_; exact ⟨rfl, hE5⟩
noncomputable def word_Bits_byte  : Option Int :=
((iterC (fun s1 : Int × UInt8 =>
(if s1.2 = (0 : UInt8) then some (.inr s1.1)
else some (.inl ((wI (s1.1 + 1)), (shr8 s1.2 1))))) (0, ((255 : UInt8) ^^^ (UInt8.ofInt 0)))).bind fun x1 => some x1)
set_option maxRecDepth 100000 in
set_option maxHeartbeats 8000000 in
theorem word_Bits_byte_calls  (r : Int) (w0 : World) (H : word_Bits_byte = some r) :
    Calls Try.prog 85 [].toArray w0 (fun e w' => e = .returned (i64 r) ∧ Ext w0 w') := by
  have hE : Ext w0 w0 := Ext.refl w0; unfold word_Bits_byte at H; refine calls_W (n := 12) Try.func85 rfl rfl rfl ?_; refine W_seq ?_; refine W_reg (by kernel_rfl) ?_; refine wla rfl rfl (q_assign (v := (i64 0)) rfl rfl) ?_; refine wl_nil ?_; refine W_th ?_; refine W_seq ?_; refine W_reg (by kernel_rfl) ?_; refine wla rfl rfl (q_assign (v := (i64 0)) rfl rfl) ?_; refine wl_nil ?_; refine W_th ?_; refine W_seq ?_; refine W_seq ?_; refine W_reg (by kernel_rfl) ?_; refine wla rfl rfl (q_cvt8I rfl rfl rfl rfl) ?_; refine wla rfl rfl (q_not8 rfl rfl) ?_; refine wla rfl rfl (q_assign (v := (u8 (((255 : UInt8) ^^^ (UInt8.ofInt 0))))) rfl rfl) ?_; refine wl_nil ?_; refine W_th ?_; obtain ⟨x1, G1, H⟩ := bsi H; refine W_mid (fun f w => f 1 = (i64 x1) ∧ f 12 = undef ∧ Ext w0 w) ?_ ?_
  · refine W_block ?_; refine W_loop (fun s1 f w => f 1 = (i64 s1.1) ∧ f 2 = (u8 s1.2) ∧ f 12 = undef ∧ Ext w0 w) G1 ?_ ?_
    · exact ⟨rfl, rfl, rfl, hE⟩
    rintro s1 _ _ w2 ⟨s1_2, s2_2, s12_2, hE2⟩ H1 hr1; refine W_seq ?_; refine W_seq ?_; refine W_reg (by kernel_rfl) ?_; refine wla rfl rfl (q_move (v := (u8 s1.2)) rfl s2_2) ?_; refine wla rfl rfl (q_ne8 rfl rfl (cst8 (0 : UInt8) rfl)) ?_; refine wl_nil ?_; refine W_th ?_; refine W_cond _ rfl rfl (fun hb3 => ?_) (fun hb3 => ?_)
    · replace H1 := (if_neg (ndec_t hb3)).symm.trans H1; refine W_skip ?_; refine W_th ?_; refine W_seq ?_; refine W_block ?_; refine W_reg (by kernel_rfl) ?_; refine wla rfl rfl (q_move (v := (i64 s1.1)) rfl s1_2) ?_; refine wla rfl rfl (q_addI rfl rfl rfl) ?_; refine wla rfl rfl (q_assign (v := (i64 ((wI (s1.1 + 1))))) rfl rfl) ?_; refine wl_nil ?_; refine bk_n ?_; refine W_th ?_; refine W_reg (by kernel_rfl) ?_; refine wla rfl rfl (q_move (v := (u8 s1.2)) rfl s2_2) ?_; refine wla rfl rfl (q_shr8 1 rfl rfl rfl rfl) ?_; refine wla rfl rfl (q_assign (v := (u8 ((shr8 s1.2 1)))) rfl rfl) ?_; refine wl_nil ?_; obtain rfl := osi H1; exact ⟨_, rfl, rfl, rfl, s12_2, hE2⟩
    replace H1 := (if_pos (ndec_f hb3)).symm.trans H1; refine W_exit ?_; refine th_x ?_; obtain rfl := osi H1; obtain rfl := hr1 _ rfl; refine th_x ?_; refine bk_x ?_; exact ⟨s1_2, s12_2, hE2⟩
  rintro _ w5 ⟨s1_5, s12_5, hE5⟩; refine W_th ?_; refine W_seq ?_; refine W_reg (by kernel_rfl) ?_; refine wla rfl rfl (q_move (v := (i64 x1)) rfl s1_5) ?_; refine wla rfl rfl (q_assign (v := (i64 x1)) rfl rfl) ?_; refine wl_nil ?_; refine W_th ?_; refine W_ret ?_; obtain rfl := osi H; refine rt1 (i64 x1) rfl rfl rfl s12_5 ?_; exact ⟨rfl, hE5⟩
noncomputable def word_Turn_byte (a0x : UInt8) (a1n : Int) : Option UInt8 :=
((word_Bits_byte ).bind fun r1 =>
((remI a1n r1).bind fun c3 =>
((remI ((wI (c3 + r1))) r1).bind fun c4 =>
(if c4 = 0 then some a0x
else
((cnt c4).bind fun c8 =>
((cnt ((wI (r1 - c4)))).bind fun c9 => some ((shl8 a0x c8) ||| (shr8 a0x c9))))))))
set_option maxRecDepth 100000 in
set_option maxHeartbeats 8000000 in
theorem word_Turn_byte_calls (a0x : UInt8) (a1n : Int) (r : UInt8) (w0 : World) (H : word_Turn_byte a0x a1n = some r) :
    Calls Try.prog 72 [(u8 a0x), (i64 a1n)].toArray w0 (fun e w' => e = .returned (u8 r) ∧ Ext w0 w') := by
  have hE : Ext w0 w0 := Ext.refl w0; unfold word_Turn_byte at H; refine calls_W (n := 26) Try.func72 rfl rfl rfl ?_; refine W_seq ?_; refine W_reg (by kernel_rfl) ?_; refine wla rfl rfl (q_assign (v := (u8 0)) rfl (cst8 (0 : UInt8) rfl)) ?_; refine wl_nil ?_; refine W_th ?_; refine W_seq ?_; refine W_reg (by kernel_rfl) ?_; obtain ⟨r1, hr1, H⟩ := bsi H; refine wls rfl rfl (stp_call (vs := []) Try.func85 rfl rfl rfl (ar0 ) (word_Bits_byte_calls   r1 _  hr1) ?_); rintro _ w1 ⟨rfl, x1⟩; refine ⟨_, rfl, ?_⟩; have e2 := hE.trans x1; refine wla rfl rfl (q_assign (v := (i64 r1)) rfl rfl) ?_; refine wl_nil ?_; refine W_th ?_; refine W_seq ?_; refine W_reg (by kernel_rfl) ?_; refine wla rfl rfl (q_move (v := (i64 a1n)) rfl rfl) ?_; refine wla rfl rfl (q_move (v := (i64 r1)) rfl rfl) ?_; obtain ⟨c3, hc3, H⟩ := bsi H; refine wla rfl rfl (q_remI rfl rfl rfl hc3) ?_; refine wla rfl rfl (q_move (v := (i64 r1)) rfl rfl) ?_; refine wla rfl rfl (q_addI rfl rfl rfl) ?_; refine wla rfl rfl (q_move (v := (i64 r1)) rfl rfl) ?_; obtain ⟨c4, hc4, H⟩ := bsi H; refine wla rfl rfl (q_remI rfl rfl rfl hc4) ?_; refine wla rfl rfl (q_assign (v := (i64 c4)) rfl rfl) ?_; refine wl_nil ?_; refine W_th ?_; refine W_seq ?_; refine W_seq ?_; refine W_reg (by kernel_rfl) ?_; refine wla rfl rfl (q_move (v := (i64 c4)) rfl rfl) ?_; refine wla rfl rfl (q_eqI rfl rfl rfl) ?_; refine wl_nil ?_; refine W_th ?_; refine W_cond _ rfl rfl (fun hb5 => ?_) (fun hb5 => ?_)
  · replace H := (if_pos (of_decide_eq_true hb5)).symm.trans H; refine W_seq ?_; refine W_reg (by kernel_rfl) ?_; refine wla rfl rfl (q_move (v := (u8 a0x)) rfl rfl) ?_; refine wla rfl rfl (q_assign (v := (u8 a0x)) rfl rfl) ?_; refine wl_nil ?_; refine W_th ?_; refine W_ret ?_; refine th_r ?_; obtain rfl := osi H; refine rt1 (u8 a0x) rfl rfl rfl rfl ?_; exact ⟨rfl, e2⟩
  replace H := (if_neg (of_decide_eq_false hb5)).symm.trans H; refine W_skip ?_; refine W_th ?_; refine W_seq ?_; refine W_draw [] [(0, 0), (1, 0), (2, 0), (3, 0), (4, 0), (5, 0), (6, 0), (7, 0), (8, 0), (9, 0)] mixed (by kernel_rfl) (by kernel_rfl) (by kernel_rfl) (by kernel_rfl) ?_; have x6 := Ext.drew w1; have e7 := e2.trans x6; refine wsa rfl rfl rfl (q_move (v := (u8 a0x)) rfl rfl) ?_; refine wsa rfl rfl rfl (q_move (v := (i64 c4)) rfl rfl) ?_; obtain ⟨c8, hc8, H⟩ := bsi H; refine wsa rfl rfl rfl (q_shl8 c8 rfl rfl rfl (cnt_eq hc8)) ?_; refine wsa rfl rfl rfl (q_move (v := (u8 a0x)) rfl rfl) ?_; refine wsa rfl rfl rfl (q_move (v := (i64 r1)) rfl rfl) ?_; refine wsa rfl rfl rfl (q_move (v := (i64 c4)) rfl rfl) ?_; refine wsa rfl rfl rfl (q_subI rfl rfl rfl) ?_; obtain ⟨c9, hc9, H⟩ := bsi H; refine wsa rfl rfl rfl (q_shr8 c9 rfl rfl rfl (cnt_eq hc9)) ?_; refine wsa rfl rfl rfl (q_or8 rfl rfl rfl) ?_; refine wsa rfl rfl rfl (q_assign (v := (u8 (((shl8 a0x c8) ||| (shr8 a0x c9))))) rfl rfl) ?_; refine ws_nil ?_; refine W_th ?_; refine W_ret ?_; obtain rfl := osi H; refine rt1 (u8 (((shl8 a0x c8) ||| (shr8 a0x c9)))) rfl rfl rfl rfl ?_; exact ⟨rfl, e7⟩
noncomputable def word_Put_uint64 (a0b : List UInt8) (a1x : UInt64) : Option (List UInt8) :=
((slices_Clone_sbytebyte a0b).bind fun r1 =>
((word_Bits_uint64 ).bind fun r4 =>
((iterC (fun s6 : List UInt8 × Int =>
(if 0 ≤ s6.2 then
((cnt s6.2).bind fun c9 =>
((appL s6.1 (([(((shr64 a1x c9)).toUInt8)] : List UInt8))).bind fun c12 => some (.inl (c12, (wI (s6.2 - 8))))))
else some (.inr s6.1))) (r1, (wI (r4 - 8)))).bind fun x6 => some x6)))
set_option maxRecDepth 100000 in
set_option maxHeartbeats 8000000 in
theorem word_Put_uint64_calls (a0b : List UInt8) (a1x : UInt64) (p0 : Value) (r : List UInt8) (w0 : World) (hp0 : By w0 [] p0 a0b) (H : word_Put_uint64 a0b a1x = some r) :
    Calls Try.prog 61 [p0, (u64 a1x)].toArray w0 (fun e w' => ∃ u0 : Value, e = .returned u0 ∧ Ext w0 w' ∧ Nw w0 u0 ∧ OwK (Sc u8) w' [] 5 u0 r) := by
  have hE : Ext w0 w0 := Ext.refl w0; unfold word_Put_uint64 at H; refine calls_W (n := 23) Try.func61 rfl rfl rfl ?_; refine W_seq ?_; refine W_reg (by kernel_rfl) ?_; refine wla rfl rfl (q_assign (v := (.slice none 0 0)) rfl rfl) ?_; refine wl_nil ?_; refine W_th ?_; refine W_seq ?_; refine W_reg (by kernel_rfl) ?_; refine wla rfl rfl (q_move (v := p0) rfl rfl) ?_; obtain ⟨r1, hr1, H⟩ := bsi H; refine wls rfl rfl (stp_call (vs := [p0]) Try.func46 rfl rfl rfl (ar1 rfl) (slices_Clone_sbytebyte_calls a0b p0 r1 _ (hp0.lift (Lift.ext hE _)) hr1) ?_); rintro _ w1 ⟨v1, rfl, x1, n1_0, o1_0⟩; refine ⟨_, rfl, ?_⟩; have o1 : OwK (Sc u8) w1 (v1 :: []) 5 v1 r1 := OwK.scal o1_0 _; have n3 := Nw.ext hE n1_0; have e2 := hE.trans x1; refine wla rfl rfl (q_assign (v := v1) rfl rfl) ?_; refine wl_nil ?_; refine W_th ?_; refine W_seq ?_; refine W_seq ?_; refine W_reg (by kernel_rfl) ?_; obtain ⟨r4, hr4, H⟩ := bsi H; refine wls rfl rfl (stp_call (vs := []) Try.func79 rfl rfl rfl (ar0 ) (word_Bits_uint64_calls   r4 _  hr4) ?_); rintro _ w4 ⟨rfl, x4⟩; refine ⟨_, rfl, ?_⟩; replace o1 := o1.extL (Sc.stab _) x4 (Lift.ext x4 _); have e5 := e2.trans x4; refine wla rfl rfl (q_subI rfl rfl rfl) ?_; refine wla rfl rfl (q_assign (v := (i64 ((wI (r4 - 8))))) rfl rfl) ?_; refine wl_nil ?_; refine W_th ?_; obtain ⟨x6, G6, H⟩ := bsi H; refine W_mid (fun f w => ∃ v5_17 : Value, f 5 = v5_17 ∧ f 23 = undef ∧ Ext w0 w ∧ OwK (Sc u8) w [v5_17] 5 v5_17 x6 ∧ Nw w0 v5_17) ?_ ?_
  · refine W_block ?_; refine W_loop (fun s6 f w => ∃ v5_15 : Value, f 1 = (u64 a1x) ∧ f 5 = v5_15 ∧ f 6 = (i64 s6.2) ∧ f 23 = undef ∧ Ext w0 w ∧ OwK (Sc u8) w [v5_15] 5 v5_15 s6.1 ∧ Nw w0 v5_15) G6 ?_ ?_
    · exact ⟨v1, rfl, rfl, rfl, rfl, e5, o1, n3⟩
    rintro s6 _ _ w7 ⟨v5_7, s1_7, s5_7, s6_7, s23_7, hE7, o0_7, n0_7⟩ H6 hr6; refine W_seq ?_; refine W_seq ?_; refine W_reg (by kernel_rfl) ?_; refine wla rfl rfl (q_move (v := (i64 s6.2)) rfl s6_7) ?_; refine wla rfl rfl (q_geI rfl rfl rfl) ?_; refine wl_nil ?_; refine W_th ?_; refine W_cond _ rfl rfl (fun hb8 => ?_) (fun hb8 => ?_)
    · replace H6 := (if_pos (of_decide_eq_true hb8)).symm.trans H6; refine W_skip ?_; refine W_th ?_; refine W_seq ?_; refine W_block ?_; refine W_reg (by kernel_rfl) ?_; refine wla rfl rfl (q_move (v := v5_7) rfl s5_7) ?_; refine wla rfl rfl (q_move (v := (u64 a1x)) rfl s1_7) ?_; refine wla rfl rfl (q_move (v := (i64 s6.2)) rfl s6_7) ?_; obtain ⟨c9, hc9, H6⟩ := bsi H6; refine wla rfl rfl (q_shr64 c9 rfl rfl rfl (cnt_eq hc9)) ?_; refine wla rfl rfl (q_cvt864 rfl rfl rfl rfl) ?_; refine wls rfl rfl (stp_lit (L := [v5_7]) (R := (Sc u8)) [(u8 ((((shr64 a1x c9)).toUInt8)))] ([(((shr64 a1x c9)).toUInt8)] : List UInt8) rfl T22 rfl (by exact ⟨rfl, rfl, trivial⟩) rfl (litC u8 (oneC_u8) (us := [(u8 ((((shr64 a1x c9)).toUInt8)))]) (l := ([(((shr64 a1x c9)).toUInt8)] : List UInt8)) rfl) rfl (litS u8 (us := [(u8 ((((shr64 a1x c9)).toUInt8)))]) (l := ([(((shr64 a1x c9)).toUInt8)] : List UInt8)) rfl) ?_); intro v10 w10 o10 n10 g10 l10; have x10 := grown_ext g10; have i10 : By w10 [v5_7] v10 (([(((shr64 a1x c9)).toUInt8)] : List UInt8)) := OwK.slk (Sc.stab _) _ o10 (fun k hk => (Old.cons (Old.nil _) o0_7.lt) k (n10 k hk)) (fun _ h => h.2); replace o0_7 := o0_7.extL (Sc.stab _) x10 (Lift.ext x10 _); have e11 := hE7.trans x10; obtain ⟨c12, hc12, H6⟩ := bsi H6; refine wls rfl rfl (stp_append (R := (Sc u8)) (v := v5_7) (u := v10) (Sc.stab _) [] [] rfl T22 rfl rfl o0_7 i10 (fun _ _ h => h) hc12 oc_u8 ?_); intro v12 w12 o12 g12 nx12 l12; replace i10 := i10.lift l12; have e13 := e11.grown g12 n0_7; have n14 := Nw.nxt e11 n0_7 nx12; refine wla rfl rfl (q_assign (v := v12) rfl rfl) ?_; refine wl_nil ?_; refine bk_n ?_; refine W_th ?_; refine W_reg (by kernel_rfl) ?_; refine wla rfl rfl (q_move (v := (i64 s6.2)) rfl s6_7) ?_; refine wla rfl rfl (q_subI rfl rfl rfl) ?_; refine wla rfl rfl (q_assign (v := (i64 ((wI (s6.2 - 8))))) rfl rfl) ?_; refine wl_nil ?_; obtain rfl := osi H6; exact ⟨_, rfl, v12, s1_7, rfl, rfl, s23_7, e13, o12, n14⟩
    replace H6 := (if_neg (of_decide_eq_false hb8)).symm.trans H6; refine W_exit ?_; refine th_x ?_; obtain rfl := osi H6; obtain rfl := hr6 _ rfl; refine th_x ?_; refine bk_x ?_; exact ⟨v5_7, s5_7, s23_7, hE7, o0_7, n0_7⟩
  rintro _ w16 ⟨v5_16, s5_16, s23_16, hE16, o0_16, n0_16⟩; refine W_th ?_; refine W_seq ?_; refine W_reg (by kernel_rfl) ?_; refine wla rfl rfl (q_move (v := v5_16) rfl s5_16) ?_; refine wla rfl rfl (q_assign (v := v5_16) rfl rfl) ?_; refine wl_nil ?_; refine W_th ?_; refine W_ret ?_; obtain rfl := osi H; refine rt1 v5_16 rfl rfl rfl s23_16 ?_; exact ⟨v5_16, rfl, hE16, n0_16, (o0_16.weak (Sc.stab _) (fun _ _ => trivial))⟩
end Gk

/- A literal of bytes that is a text's: its mark. No condition. -/
set_option linter.unusedVariables false
set_option linter.unusedSimpArgs false
namespace Gk
open Go Go.RowKit
end Gk

/- A byte of a text. No condition. -/
set_option linter.unusedVariables false
set_option linter.unusedSimpArgs false
namespace Gk
open Go Go.RowKit
variable {P : Program} {o : Oper} {f : Nat → Value}
end Gk

/- Arrays as slices; pointers to arrays that are read. No condition. -/
set_option linter.unusedVariables false
set_option linter.unusedSimpArgs false
namespace Gk
open Go Go.RowKit
section
variable {P : Program} {o : Oper} {f : Nat → Value} {w : World} {L : List Value} {t e T : TypeId} {n g : Nat} {l m : List UInt8}
theorem Blk.by (h : Blk w g T (ac u8 l)) (hl : l.length = n) : By w [] (.slice (some ⟨g, 0, none⟩) n n) l := by
  refine ⟨l.map u8, ⟨some ⟨g, 0, none⟩, n, by simp [hl], by simp [hl], fun hn => ⟨g, 0, rfl, trivial, fun i hi => ?_⟩⟩, by simp, fun i a1 a2 => by simp [Sc]⟩
  rw [Nat.zero_add, h.cell]
  simp at hi
  simp [ac, hi]
theorem q_sliceA {x : Operand} (ho : o.op = .slice t x none none none) (A : TyA P t e n) (hx : ev f x = bp g) : Qa P o f (.slice (some ⟨g, 0, none⟩) n n) := by
  intro w'
  simp [execOp, ho, hx, bp, Instr.sliceAt, run_underlying A.und, Instr.sureAddr, Instr.sliceBounds, A.esz, Addr.add]
theorem stp_copyA {d x : Operand} {z u : Value} {bytes : Nat} {Lu : List Value} (L1 L2 : List Value) (ho : o.op = .call ⟨.builtin .copy, #[d, x], #[t, t]⟩) (TT : TyS P t e z bytes) (hd : ev f d = .slice (some ⟨g, 0, none⟩) n n) (hx : ev f x = u)
    (h : Blk w g T (ac u8 l)) (hl : l.length = n) (hu : SlK (Sc u8) w Lu u m)
    {K : Value → World → Prop} (hk : ∀ w', Blk w' g T (ac u8 (copyL l 0 m)) → Gr w w' (bp g) → Lift w w' (L1 ++ bp g :: L2) (L1 ++ bp g :: L2) → K (i64 (min m.length (l.length - (0 : Int).toNat) : Nat)) w') : Stp P o f w K := by
  subst hl
  obtain ⟨ns, ⟨p, cap, rfl, hcap, hne⟩, hl', he0⟩ := hu
  have hns : ns = m.map u8 := by
    apply List.ext_getElem (by simp [hl'])
    intro i h1 h2
    have := he0 i h1 (by simpa using h2)
    simpa [Sc] using this
  subst hns
  obtain ⟨i, hi, i1, i2, i3⟩ := info_parts TT.info
  have hsz : (P.info? e).map (·.size) = some 1 := by rw [hi]; simp [i2]
  by_cases hz : Nat.min (m.map u8).length l.length = 0
  · have hrun := run_copy_none (P := P) w t t o.type e (some ⟨g, 0, none⟩) p l.length l.length (m.map u8).length cap TT.sl hsz hz
    rw [List.length_map] at hrun hx
    have hz' : min m.length l.length = 0 := by simpa using hz
    refine stp_of_run (v := goInt 0) (w' := w) (by rw [exec_builtin _ ho]; simp [builtin, hd, hx, hrun]) ?_
    have hk' := hk w ?_ (Gr.refl w _) (Lift.sub (fun _ h => h))
    · have e0 : min m.length (l.length - (0 : Int).toNat) = 0 := by simpa using hz'
      rw [e0] at hk'; exact hk'
    · have : copyL l 0 m = l := by
        unfold copyL
        simp only [show (0 : Int).toNat = 0 from rfl, Nat.sub_zero, List.take_zero, List.nil_append, Nat.zero_add, hz', List.drop_zero]
        rcases Nat.eq_zero_or_pos l.length with h3 | h3
        · rw [h3]; simp
        · have : m.length = 0 := by omega
          rw [List.eq_nil_of_length_eq_zero this]; simp
      rw [this]; exact h
  · have hpos : 0 < Nat.min (m.map u8).length l.length := Nat.pos_of_ne_zero hz
    have hm0 : 0 < (m.map u8).length := Nat.lt_of_lt_of_le hpos (Nat.min_le_left _ _)
    obtain ⟨b, so, rfl, _, hr⟩ := hne (List.length_pos_iff.1 hm0)
    have hn : ((m.map u8).take l.length).length = Nat.min (m.map u8).length l.length := by simp; exact Nat.min_comm _ _
    have hrun := run_copy_row (P := P) w t t o.type e g 0 l.length l.length ⟨b, so, none⟩ (m.map u8).length cap (ac u8 l) T ((m.map u8).take l.length) TT.sl hsz h hn
      (fun j v hj => by
        obtain ⟨hj', rfl⟩ := List.getElem?_eq_some_iff.1 hj
        rw [add_off, hr j (by have := hj'; simp only [List.length_take] at this; omega)]; simp)
      (by rw [hn, ac_size, Nat.zero_add]; exact Nat.min_le_right _ _)
      (fun a ha => by
        have := List.mem_of_mem_take ha
        obtain ⟨c, _, rfl⟩ := List.mem_map.1 this
        rfl)
    generalize hw' : w.setRow g ((ac u8 l).toList.take 0 ++ (m.map u8).take l.length ++ (ac u8 l).toList.drop (0 + ((m.map u8).take l.length).length)).toArray = w' at hrun
    have hgr : Gr w w' (bp g) := Gr.of (by rw [← hw']; exact ⟨rfl, rfl, rfl, by simp, fun j _ hj => setRow_other w g j _ (fun e => hj (by rw [e]; rfl))⟩)
    rw [List.length_map] at hrun hx
    refine stp_of_run (v := goInt ((m.map u8).take l.length).length) (w' := w') (by rw [exec_builtin _ ho]; simp [builtin, hd, hx, hrun]) ?_
    have hk' := hk w' ?_ hgr (Lift.own L1 L2 hgr (Nx.refl _ _))
    · have e0 : ((m.map u8).take l.length).length = min m.length (l.length - (0 : Int).toNat) := by
        rw [hn, List.length_map]; rfl
      rw [e0]; exact hk'
    · have hb : Blk w' g T ((ac u8 l).toList.take 0 ++ (m.map u8).take l.length ++ (ac u8 l).toList.drop (0 + ((m.map u8).take l.length).length)).toArray := by
        rw [← hw']; exact setRow_heap w g _ _ T _ h
      have e1 : ((ac u8 l).toList.take 0 ++ (m.map u8).take l.length ++ (ac u8 l).toList.drop (0 + ((m.map u8).take l.length).length)).toArray = ac u8 (copyL l 0 m) := by
        have e2 : min l.length m.length = min m.length l.length := Nat.min_comm _ _
        simp [ac, copyL, List.map_append, List.map_take, List.map_drop, e2]
      rw [e1] at hb; exact hb
theorem nw_asl (h : Nw w (bp g)) : Nw w (.slice (some ⟨g, 0, none⟩) n n) := fun k hk => h k (.inl (by
  have h1 := hs_sl hk
  cases n with
  | zero => simp [oB] at h1
  | succ n => rw [oB_pos (Nat.succ_pos _)] at h1; cases h1; rfl))
def Pa (w : World) (L : List Value) (v : Value) (l : List UInt8) : Prop := ∃ a, v = .pointer (some a) ∧ By w L (.slice (some a) l.length l.length) l
theorem Pa.lift {w w' : World} {L L' : List Value} {v : Value} (h : Pa w L v l) (g : Lift w w' L L') : Pa w' L' v l := by
  obtain ⟨a, rfl, hb⟩ := h; exact ⟨a, rfl, hb.lift g⟩
def pix (v : Value) (i : Nat) : Value := match v with | .pointer (some a) => .pointer (some (a.add i)) | _ => undef
theorem q_nilPa {x : Operand} {v : Value} (ho : o.op = .nilCheck x) (hx : ev f x = v) (h : Pa w L v l) : Qa P o f v := by
  obtain ⟨a, rfl, _⟩ := h
  intro w'
  simp [execOp, ho, hx]
theorem q_ixPa8 {x y : Operand} {v : Value} {i c : UInt8} (ho : o.op = .indexAddr t x y) (A : TyA P t e n) (hx : ev f x = v) (h : Pa w L v l) (hy : ev f y = u8 i) (hl : l.length = n) (hi : idx l (i.toNat : Int) = some c) : Qa P o f (pix v (i.toNat : Int).toNat) := by
  obtain ⟨a, rfl, _⟩ := h
  intro w'
  obtain ⟨h0, h1, h2⟩ := idx_some.1 hi
  have h3 : i.toNat < n := by simp at h1; omega
  simp [execOp, ho, hx, hy, u8, Instr.indexAt, asIntOf, run_underlying A.und, Instr.sureAddr, h3, A.esz, pix]
theorem q_loadPa {x : Operand} {v : Value} {i : Int} {c : UInt8} {z : Value} {bytes : Nat} (ho : o.op = .load e x) (TT : TyS P t e z bytes) (hx : ev f x = pix v i.toNat) (h : Pa w L v l) (hi : idx l i = some c) : Qt P o f w (u8 c) := by
  obtain ⟨a, rfl, hb⟩ := h
  exact q_loadS (v := .slice (some a) l.length l.length) ho TT hx hb hi
end
end Gk

/- Printed by gen.py: for each Go function a pure function, and that the Go code comes to it. No condition beside the equation that says what the pure function gives. -/
set_option linter.unusedVariables false
set_option linter.unusedSimpArgs false
namespace Gk
open Go Go.Proofs
noncomputable def cipher_rows (a0s : List UInt8) (a1by : Int) : Option (List UInt8) :=
((iterC (fun s5 : List UInt8 × Int =>
(if s5.2 < 4 then
((iterC (fun s8 : List UInt8 × Int =>
(if s8.2 < 4 then
((lenA 16 a0s).bind fun c11 =>
((idx a0s ((wI ((wI (4 * (andI (wI (s8.2 + (wI (a1by * s5.2)))) 3))) + s5.2)))).bind fun c12 =>
((lenA 16 s8.1).bind fun c13 =>
((idx s8.1 ((wI ((wI (4 * s8.2)) + s5.2)))).bind fun c14 => some (.inl ((s8.1.set ((wI ((wI (4 * s8.2)) + s5.2)) : Int).toNat c12), (wI (s8.2 + 1))))))))
else some (.inr s8.1))) (s5.1, 0)).bind fun x8 => some (.inl (x8, (wI (s5.2 + 1)))))
else some (.inr s5.1))) ((List.replicate 16 (0 : UInt8)), 0)).bind fun x5 =>
((lenA 16 x5).bind fun c22 =>
((lenA 16 a0s).bind fun c24 => some x5)))
set_option maxRecDepth 100000 in
set_option maxHeartbeats 8000000 in
theorem cipher_rows_calls (a0s : List UInt8) (a1by : Int) (gio0 : Nat) (r : List UInt8) (w0 : World) (hio0 : Blk w0 gio0 77 (ac u8 a0s)) (H : cipher_rows a0s a1by = some r) :
    Calls Try.prog 55 [(bp gio0), (i64 a1by)].toArray w0 (fun e w' => e = .returned (.tuple #[]) ∧ ExG [(bp gio0)] w0 w' ∧ Blk w' gio0 77 (ac u8 r)) := by
  have hE : ExG [(bp gio0)] w0 w0 := ExG.refl _ w0; unfold cipher_rows at H; refine calls_W (n := 36) Try.func55 rfl rfl rfl ?_; refine W_seq ?_; refine W_reg (by kernel_rfl) ?_; refine wls rfl rfl (stp_allocL (z := (ag u8 ((List.replicate 16 (0 : UInt8))))) (cs := (ac u8 ((List.replicate 16 (0 : UInt8))))) [(bp gio0)] rfl Z77 rfl ?_); intro g1 w1 o1 n1 g1r l1; have x1 := grown_ext g1r; have q2 : Nq (bp gio0) (bp g1) := hio0.nq n1; replace hio0 := hio0.ext x1; have n4 := NS.ext hE n1; have e3 := hE.trans x1; refine wl_nil ?_; refine W_th ?_; refine W_seq ?_; refine W_seq ?_; refine W_reg (by kernel_rfl) ?_; refine wla rfl rfl (q_move (v := (i64 0)) rfl rfl) ?_; refine wl_nil ?_; refine W_th ?_; obtain ⟨x5, G5, H⟩ := bsi H; refine W_mid (fun f w => f 0 = (bp gio0) ∧ f 4 = (bp g1) ∧ f 36 = undef ∧ ExG [(bp gio0)] w0 w ∧ Blk w gio0 77 (ac u8 a0s) ∧ NS [(bp gio0)] w0 (bp gio0) ∧ Blk w g1 77 (ac u8 x5) ∧ NS [(bp gio0)] w0 (bp g1) ∧ Nq (bp gio0) (bp g1)) ?_ ?_
  · refine W_block ?_; refine W_loop (fun s5 f w => f 0 = (bp gio0) ∧ f 1 = (i64 a1by) ∧ f 4 = (bp g1) ∧ f 7 = (i64 s5.2) ∧ f 36 = undef ∧ ExG [(bp gio0)] w0 w ∧ Blk w gio0 77 (ac u8 a0s) ∧ NS [(bp gio0)] w0 (bp gio0) ∧ Blk w g1 77 (ac u8 s5.1) ∧ NS [(bp gio0)] w0 (bp g1) ∧ Nq (bp gio0) (bp g1)) G5 ?_ ?_
    · exact ⟨rfl, rfl, rfl, rfl, rfl, e3, hio0, NS.own, o1, n4, q2⟩
    rintro s5 _ _ w6 ⟨s0_6, s1_6, s4_6, s7_6, s36_6, hE6, o0_6, n0_6, o1_6, n1_6, q0_1_6⟩ H5 hr5; refine W_seq ?_; refine W_reg (by kernel_rfl) ?_; refine wla rfl rfl (q_ltI rfl s7_6 rfl) ?_; refine wl_nil ?_; refine W_th ?_; refine W_seq ?_; refine W_cond _ rfl rfl (fun hb7 => ?_) (fun hb7 => ?_)
    · replace H5 := (if_pos (of_decide_eq_true hb7)).symm.trans H5; refine W_skip ?_; refine W_th ?_; refine W_seq ?_; refine W_block ?_; refine W_seq ?_; refine W_reg (by kernel_rfl) ?_; refine wla rfl rfl (q_move (v := (i64 s5.2)) rfl s7_6) ?_; refine wla rfl rfl (q_assign (v := (i64 s5.2)) rfl rfl) ?_; refine wl_nil ?_; refine W_th ?_; refine W_seq ?_; refine W_reg (by kernel_rfl) ?_; refine wla rfl rfl (q_move (v := (i64 0)) rfl rfl) ?_; refine wl_nil ?_; refine W_th ?_; obtain ⟨x8, G8, H5⟩ := bsi H5; refine W_mid (fun f w => f 0 = (bp gio0) ∧ f 1 = (i64 a1by) ∧ f 4 = (bp g1) ∧ f 7 = (i64 s5.2) ∧ f 36 = undef ∧ ExG [(bp gio0)] w0 w ∧ Blk w gio0 77 (ac u8 a0s) ∧ NS [(bp gio0)] w0 (bp gio0) ∧ Blk w g1 77 (ac u8 x8) ∧ NS [(bp gio0)] w0 (bp g1) ∧ Nq (bp gio0) (bp g1)) ?_ ?_
      · refine W_block ?_; refine W_loop (fun s8 f w => f 0 = (bp gio0) ∧ f 1 = (i64 a1by) ∧ f 4 = (bp g1) ∧ f 5 = (i64 s5.2) ∧ f 7 = (i64 s5.2) ∧ f 10 = (i64 s8.2) ∧ f 36 = undef ∧ ExG [(bp gio0)] w0 w ∧ Blk w gio0 77 (ac u8 a0s) ∧ NS [(bp gio0)] w0 (bp gio0) ∧ Blk w g1 77 (ac u8 s8.1) ∧ NS [(bp gio0)] w0 (bp g1) ∧ Nq (bp gio0) (bp g1)) G8 ?_ ?_
        · exact ⟨s0_6, s1_6, s4_6, rfl, s7_6, rfl, s36_6, hE6, o0_6, n0_6, o1_6, n1_6, q0_1_6⟩
        rintro s8 _ _ w9 ⟨s0_9, s1_9, s4_9, s5_9, s7_9, s10_9, s36_9, hE9, o0_9, n0_9, o1_9, n1_9, q0_1_9⟩ H8 hr8; refine W_seq ?_; refine W_reg (by kernel_rfl) ?_; refine wla rfl rfl (q_ltI rfl s10_9 rfl) ?_; refine wl_nil ?_; refine W_th ?_; refine W_seq ?_; refine W_cond _ rfl rfl (fun hb10 => ?_) (fun hb10 => ?_)
        · replace H8 := (if_pos (of_decide_eq_true hb10)).symm.trans H8; refine W_skip ?_; refine W_th ?_; refine W_seq ?_; refine W_block ?_; refine W_seq ?_; refine W_reg (by kernel_rfl) ?_; refine wla rfl rfl (q_move (v := (i64 s8.2)) rfl s10_9) ?_; refine wla rfl rfl (q_assign (v := (i64 s8.2)) rfl rfl) ?_; refine wl_nil ?_; refine W_th ?_; refine W_reg (by kernel_rfl) ?_; refine wla rfl rfl (q_move (v := (i64 s8.2)) rfl rfl) ?_; refine wla rfl rfl (q_mulI rfl rfl rfl) ?_; refine wla rfl rfl (q_move (v := (i64 s5.2)) rfl s5_9) ?_; refine wla rfl rfl (q_addI rfl rfl rfl) ?_; refine wla rfl rfl (q_move (v := (bp gio0)) rfl s0_9) ?_; refine wla rfl rfl (q_move (v := (i64 s8.2)) rfl rfl) ?_; refine wla rfl rfl (q_move (v := (i64 a1by)) rfl s1_9) ?_; refine wla rfl rfl (q_move (v := (i64 s5.2)) rfl s5_9) ?_; refine wla rfl rfl (q_mulI rfl rfl rfl) ?_; refine wla rfl rfl (q_addI rfl rfl rfl) ?_; refine wla rfl rfl (q_andI rfl rfl rfl) ?_; refine wla rfl rfl (q_mulI rfl rfl rfl) ?_; refine wla rfl rfl (q_move (v := (i64 s5.2)) rfl s5_9) ?_; refine wla rfl rfl (q_addI rfl rfl rfl) ?_; refine wla rfl rfl (q_nilP rfl rfl) ?_; obtain ⟨c11, hc11, H8⟩ := bsi H8; obtain ⟨c12, hc12, H8⟩ := bsi H8; refine wla rfl rfl (q_ixA (m := 0) rfl A77 rfl rfl (lenA_eq hc11) hc12) ?_; refine wlq rfl rfl (q_loadE (m := 0) rfl A77 rfl o0_9 (seg_self _ _) hc12) ?_; obtain ⟨c13, hc13, H8⟩ := bsi H8; obtain ⟨c14, hc14, H8⟩ := bsi H8; refine wla rfl rfl (q_ixA (m := 0) rfl A77 (by exact s4_9) rfl (lenA_eq hc13) hc14) ?_; refine wln rfl rfl (stp_storeX (b := c12) [(bp gio0)] [] rfl A77 rfl rfl o1_9 hc14 (one_u8 _) ?_); intro w15 o15 g15 l15; replace o0_9 := o0_9.other g15 q0_1_9; have e16 := hE9.grown g15 n1_9; refine wl_nil ?_; refine bk_n ?_; refine W_th ?_; refine W_reg (by kernel_rfl) ?_; refine wla rfl rfl (q_addI rfl s10_9 rfl) ?_; refine wla rfl rfl (q_move (v := (i64 ((wI (s8.2 + 1))))) rfl rfl) ?_; refine wl_nil ?_; obtain rfl := osi H8; exact ⟨_, rfl, s0_9, s1_9, s4_9, s5_9, s7_9, rfl, s36_9, e16, o0_9, n0_9, o15, n1_9, q0_1_9⟩
        replace H8 := (if_neg (of_decide_eq_false hb10)).symm.trans H8; refine W_exit ?_; refine th_x ?_; obtain rfl := osi H8; obtain rfl := hr8 _ rfl; refine th_x ?_; refine bk_x ?_; exact ⟨s0_9, s1_9, s4_9, s7_9, s36_9, hE9, o0_9, n0_9, o1_9, n1_9, q0_1_9⟩
      rintro _ w18 ⟨s0_18, s1_18, s4_18, s7_18, s36_18, hE18, o0_18, n0_18, o1_18, n1_18, q0_1_18⟩; refine bk_n ?_; refine W_th ?_; refine W_reg (by kernel_rfl) ?_; refine wla rfl rfl (q_addI rfl s7_18 rfl) ?_; refine wla rfl rfl (q_move (v := (i64 ((wI (s5.2 + 1))))) rfl rfl) ?_; refine wl_nil ?_; obtain rfl := osi H5; exact ⟨_, rfl, s0_18, s1_18, s4_18, rfl, s36_18, hE18, o0_18, n0_18, o1_18, n1_18, q0_1_18⟩
    replace H5 := (if_neg (of_decide_eq_false hb7)).symm.trans H5; refine W_exit ?_; refine th_x ?_; obtain rfl := osi H5; obtain rfl := hr5 _ rfl; refine th_x ?_; refine bk_x ?_; exact ⟨s0_6, s4_6, s36_6, hE6, o0_6, n0_6, o1_6, n1_6, q0_1_6⟩
  rintro _ w21 ⟨s0_21, s4_21, s36_21, hE21, o0_21, n0_21, o1_21, n1_21, q0_1_21⟩; refine W_th ?_; refine W_reg (by kernel_rfl) ?_; refine wla rfl rfl (q_move (v := (bp gio0)) rfl s0_21) ?_; obtain ⟨c22, hc22, H⟩ := bsi H; refine wlq rfl rfl (q_loadA (m := 0) rfl A77 (by exact s4_21) o1_21 (seg_self _ _) (lenA_eq hc22)) ?_; refine wla rfl rfl (q_nilP rfl rfl) ?_; obtain ⟨c24, hc24, H⟩ := bsi H; refine wln rfl rfl (stp_storeA [] [(bp g1)] rfl A77 rfl rfl (lenA_eq hc24) (lenA_eq hc22) o0_21 one_u8 ?_); intro w23 o23 g23 l23; replace o1_21 := o1_21.other g23 q0_1_21.symm; have e25 := hE21.grown g23 n0_21; refine wl_nil ?_; refine rtn ?_; obtain rfl := osi H; refine rt0 rfl s36_21 ?_; exact ⟨rfl, e25, o23⟩
noncomputable def cipher_columns (a0s : List UInt8) (a1f : Bool) (a2p : List UInt8) : Option (List UInt8) :=
((iterC (fun s10 : List UInt8 × Int =>
(if s10.2 < 4 then
((iterC (fun s13 : List UInt8 × Int =>
(if s13.2 < 4 then
((iterC (fun s16 : List UInt8 × Int =>
(if s16.2 < 4 then
((lenA 16 s16.1).bind fun c21 =>
((idx s16.1 ((wI ((wI (4 * s10.2)) + s13.2)))).bind fun c22 =>
((lenA 4 a2p).bind fun c23 =>
((idx a2p ((andI (wI (s13.2 - s16.2)) 3))).bind fun c24 =>
((lenA 16 a0s).bind fun c25 =>
((idx a0s ((wI ((wI (4 * s10.2)) + s16.2)))).bind fun c26 =>
((field_Mul a1f c24 c26).bind fun r27 => some (.inl ((s16.1.set ((wI ((wI (4 * s10.2)) + s13.2)) : Int).toNat ((c22 ^^^ r27))), (wI (s16.2 + 1)))))))))))
else some (.inr s16.1))) (s13.1, 0)).bind fun x16 => some (.inl (x16, (wI (s13.2 + 1)))))
else some (.inr s13.1))) (s10.1, 0)).bind fun x13 => some (.inl (x13, (wI (s10.2 + 1)))))
else some (.inr s10.1))) ((List.replicate 16 (0 : UInt8)), 0)).bind fun x10 =>
((lenA 16 x10).bind fun c39 =>
((lenA 16 a0s).bind fun c41 => some x10)))
set_option maxRecDepth 100000 in
set_option maxHeartbeats 8000000 in
theorem cipher_columns_calls (a0s : List UInt8) (a1f : Bool) (a2p : List UInt8) (gio0 : Nat) (p1 : Value) (r : List UInt8) (w0 : World) (hio0 : Blk w0 gio0 77 (ac u8 a0s)) (hp1 : Fd w0 [(bp gio0)] p1 a1f) (H : cipher_columns a0s a1f a2p = some r) :
    Calls Try.prog 56 [(bp gio0), p1, (ag u8 a2p)].toArray w0 (fun e w' => e = .returned (.tuple #[]) ∧ ExG [(bp gio0)] w0 w' ∧ Blk w' gio0 77 (ac u8 r)) := by
  have hE : ExG [(bp gio0)] w0 w0 := ExG.refl _ w0; unfold cipher_columns at H; refine calls_W (n := 49) Try.func56 rfl rfl rfl ?_; refine W_seq ?_; refine W_reg (by kernel_rfl) ?_; refine wls rfl rfl (stp_boxL (v := (ag u8 a2p)) (cs := (ac u8 a2p)) [(bp gio0)] rfl rfl rfl ?_); intro g1 w1 o1 n1 g1r l1; have x1 := grown_ext g1r; have q2 : Nq (bp gio0) (bp g1) := hio0.nq n1; replace hio0 := hio0.ext x1; have n4 := NS.ext hE n1; have e3 := hE.trans x1; refine wl_nil ?_; refine W_th ?_; refine W_seq ?_; refine W_reg (by kernel_rfl) ?_; refine wls rfl rfl (stp_allocL (z := (ag u8 ((List.replicate 16 (0 : UInt8))))) (cs := (ac u8 ((List.replicate 16 (0 : UInt8))))) [(bp g1), (bp gio0)] rfl Z77 rfl ?_); intro g5 w5 o5 n5 g5r l5; have x5 := grown_ext g5r; have q6 : Nq (bp g1) (bp g5) := o1.nq n5; have q7 : Nq (bp gio0) (bp g5) := hio0.nq n5; replace o1 := o1.ext x5; replace hio0 := hio0.ext x5; have n9 := NS.ext e3 n5; have e8 := e3.trans x5; refine wl_nil ?_; refine W_th ?_; refine W_seq ?_; refine W_seq ?_; refine W_reg (by kernel_rfl) ?_; refine wla rfl rfl (q_move (v := (i64 0)) rfl rfl) ?_; refine wl_nil ?_; refine W_th ?_; obtain ⟨x10, G10, H⟩ := bsi H; refine W_mid (fun f w => f 0 = (bp gio0) ∧ f 6 = (bp g5) ∧ f 49 = undef ∧ ExG [(bp gio0)] w0 w ∧ Blk w gio0 77 (ac u8 a0s) ∧ NS [(bp gio0)] w0 (bp gio0) ∧ Blk w g5 77 (ac u8 x10) ∧ NS [(bp gio0)] w0 (bp g5) ∧ Nq (bp gio0) (bp g5)) ?_ ?_
  · refine W_block ?_; refine W_loop (fun s10 f w => f 0 = (bp gio0) ∧ f 1 = p1 ∧ f 5 = (bp g1) ∧ f 6 = (bp g5) ∧ f 10 = (i64 s10.2) ∧ f 49 = undef ∧ ExG [(bp gio0)] w0 w ∧ Blk w gio0 77 (ac u8 a0s) ∧ NS [(bp gio0)] w0 (bp gio0) ∧ Blk w g1 87 (ac u8 a2p) ∧ NS [(bp gio0)] w0 (bp g1) ∧ Blk w g5 77 (ac u8 s10.1) ∧ NS [(bp gio0)] w0 (bp g5) ∧ Nq (bp gio0) (bp g1) ∧ Nq (bp gio0) (bp g5) ∧ Nq (bp g1) (bp g5)) G10 ?_ ?_
    · exact ⟨rfl, rfl, rfl, rfl, rfl, rfl, e8, hio0, NS.own, o1, n4, o5, n9, q2, q7, q6⟩
    rintro s10 _ _ w11 ⟨s0_11, s1_11, s5_11, s6_11, s10_11, s49_11, hE11, o0_11, n0_11, o1_11, n1_11, o2_11, n2_11, q0_1_11, q0_2_11, q1_2_11⟩ H10 hr10; refine W_seq ?_; refine W_reg (by kernel_rfl) ?_; refine wla rfl rfl (q_ltI rfl s10_11 rfl) ?_; refine wl_nil ?_; refine W_th ?_; refine W_seq ?_; refine W_cond _ rfl rfl (fun hb12 => ?_) (fun hb12 => ?_)
    · replace H10 := (if_pos (of_decide_eq_true hb12)).symm.trans H10; refine W_skip ?_; refine W_th ?_; refine W_seq ?_; refine W_block ?_; refine W_seq ?_; refine W_reg (by kernel_rfl) ?_; refine wla rfl rfl (q_move (v := (i64 s10.2)) rfl s10_11) ?_; refine wla rfl rfl (q_assign (v := (i64 s10.2)) rfl rfl) ?_; refine wl_nil ?_; refine W_th ?_; refine W_seq ?_; refine W_reg (by kernel_rfl) ?_; refine wla rfl rfl (q_move (v := (i64 0)) rfl rfl) ?_; refine wl_nil ?_; refine W_th ?_; obtain ⟨x13, G13, H10⟩ := bsi H10; refine W_mid (fun f w => f 0 = (bp gio0) ∧ f 1 = p1 ∧ f 5 = (bp g1) ∧ f 6 = (bp g5) ∧ f 10 = (i64 s10.2) ∧ f 49 = undef ∧ ExG [(bp gio0)] w0 w ∧ Blk w gio0 77 (ac u8 a0s) ∧ NS [(bp gio0)] w0 (bp gio0) ∧ Blk w g1 87 (ac u8 a2p) ∧ NS [(bp gio0)] w0 (bp g1) ∧ Blk w g5 77 (ac u8 x13) ∧ NS [(bp gio0)] w0 (bp g5) ∧ Nq (bp gio0) (bp g1) ∧ Nq (bp gio0) (bp g5) ∧ Nq (bp g1) (bp g5)) ?_ ?_
      · refine W_block ?_; refine W_loop (fun s13 f w => f 0 = (bp gio0) ∧ f 1 = p1 ∧ f 5 = (bp g1) ∧ f 6 = (bp g5) ∧ f 7 = (i64 s10.2) ∧ f 10 = (i64 s10.2) ∧ f 13 = (i64 s13.2) ∧ f 49 = undef ∧ ExG [(bp gio0)] w0 w ∧ Blk w gio0 77 (ac u8 a0s) ∧ NS [(bp gio0)] w0 (bp gio0) ∧ Blk w g1 87 (ac u8 a2p) ∧ NS [(bp gio0)] w0 (bp g1) ∧ Blk w g5 77 (ac u8 s13.1) ∧ NS [(bp gio0)] w0 (bp g5) ∧ Nq (bp gio0) (bp g1) ∧ Nq (bp gio0) (bp g5) ∧ Nq (bp g1) (bp g5)) G13 ?_ ?_
        · exact ⟨s0_11, s1_11, s5_11, s6_11, rfl, s10_11, rfl, s49_11, hE11, o0_11, n0_11, o1_11, n1_11, o2_11, n2_11, q0_1_11, q0_2_11, q1_2_11⟩
        rintro s13 _ _ w14 ⟨s0_14, s1_14, s5_14, s6_14, s7_14, s10_14, s13_14, s49_14, hE14, o0_14, n0_14, o1_14, n1_14, o2_14, n2_14, q0_1_14, q0_2_14, q1_2_14⟩ H13 hr13; refine W_seq ?_; refine W_reg (by kernel_rfl) ?_; refine wla rfl rfl (q_ltI rfl s13_14 rfl) ?_; refine wl_nil ?_; refine W_th ?_; refine W_seq ?_; refine W_cond _ rfl rfl (fun hb15 => ?_) (fun hb15 => ?_)
        · replace H13 := (if_pos (of_decide_eq_true hb15)).symm.trans H13; refine W_skip ?_; refine W_th ?_; refine W_seq ?_; refine W_block ?_; refine W_seq ?_; refine W_reg (by kernel_rfl) ?_; refine wla rfl rfl (q_move (v := (i64 s13.2)) rfl s13_14) ?_; refine wla rfl rfl (q_assign (v := (i64 s13.2)) rfl rfl) ?_; refine wl_nil ?_; refine W_th ?_; refine W_seq ?_; refine W_reg (by kernel_rfl) ?_; refine wla rfl rfl (q_move (v := (i64 0)) rfl rfl) ?_; refine wl_nil ?_; refine W_th ?_; obtain ⟨x16, G16, H13⟩ := bsi H13; refine W_mid (fun f w => f 0 = (bp gio0) ∧ f 1 = p1 ∧ f 5 = (bp g1) ∧ f 6 = (bp g5) ∧ f 7 = (i64 s10.2) ∧ f 10 = (i64 s10.2) ∧ f 13 = (i64 s13.2) ∧ f 49 = undef ∧ ExG [(bp gio0)] w0 w ∧ Blk w gio0 77 (ac u8 a0s) ∧ NS [(bp gio0)] w0 (bp gio0) ∧ Blk w g1 87 (ac u8 a2p) ∧ NS [(bp gio0)] w0 (bp g1) ∧ Blk w g5 77 (ac u8 x16) ∧ NS [(bp gio0)] w0 (bp g5) ∧ Nq (bp gio0) (bp g1) ∧ Nq (bp gio0) (bp g5) ∧ Nq (bp g1) (bp g5)) ?_ ?_
          · refine W_block ?_; refine W_loop (fun s16 f w => f 0 = (bp gio0) ∧ f 1 = p1 ∧ f 5 = (bp g1) ∧ f 6 = (bp g5) ∧ f 7 = (i64 s10.2) ∧ f 8 = (i64 s13.2) ∧ f 10 = (i64 s10.2) ∧ f 13 = (i64 s13.2) ∧ f 16 = (i64 s16.2) ∧ f 49 = undef ∧ ExG [(bp gio0)] w0 w ∧ Blk w gio0 77 (ac u8 a0s) ∧ NS [(bp gio0)] w0 (bp gio0) ∧ Blk w g1 87 (ac u8 a2p) ∧ NS [(bp gio0)] w0 (bp g1) ∧ Blk w g5 77 (ac u8 s16.1) ∧ NS [(bp gio0)] w0 (bp g5) ∧ Nq (bp gio0) (bp g1) ∧ Nq (bp gio0) (bp g5) ∧ Nq (bp g1) (bp g5)) G16 ?_ ?_
            · exact ⟨s0_14, s1_14, s5_14, s6_14, s7_14, rfl, s10_14, s13_14, rfl, s49_14, hE14, o0_14, n0_14, o1_14, n1_14, o2_14, n2_14, q0_1_14, q0_2_14, q1_2_14⟩
            rintro s16 _ _ w17 ⟨s0_17, s1_17, s5_17, s6_17, s7_17, s8_17, s10_17, s13_17, s16_17, s49_17, hE17, o0_17, n0_17, o1_17, n1_17, o2_17, n2_17, q0_1_17, q0_2_17, q1_2_17⟩ H16 hr16; refine W_seq ?_; refine W_reg (by kernel_rfl) ?_; refine wla rfl rfl (q_ltI rfl s16_17 rfl) ?_; refine wl_nil ?_; refine W_th ?_; refine W_seq ?_; refine W_cond _ rfl rfl (fun hb18 => ?_) (fun hb18 => ?_)
            · replace H16 := (if_pos (of_decide_eq_true hb18)).symm.trans H16; refine W_skip ?_; refine W_th ?_; refine W_seq ?_; refine W_block ?_; refine W_seq ?_; refine W_reg (by kernel_rfl) ?_; refine wla rfl rfl (q_move (v := (i64 s16.2)) rfl s16_17) ?_; refine wla rfl rfl (q_assign (v := (i64 s16.2)) rfl rfl) ?_; refine wl_nil ?_; refine W_th ?_; refine W_draw [5, 12, 20] [(0, 0), (1, 0), (2, 0), (3, 0), (4, 0), (5, 1), (6, 0), (7, 0), (8, 0), (9, 0), (10, 0), (11, 0), (12, 1), (13, 0), (14, 0), (15, 0), (16, 0), (17, 0), (18, 0), (19, 0), (20, 1), (21, 2), (22, 0), (23, 0), (24, 2)] mixed (by kernel_rfl) (by kernel_rfl) (by kernel_rfl) (by kernel_rfl) ?_; have x19 := Ext.drew w17; replace o0_17 := o0_17.ext x19; replace o1_17 := o1_17.ext x19; replace o2_17 := o2_17.ext x19; have e20 := hE17.trans x19; refine wsa rfl rfl rfl (q_move (v := (i64 s10.2)) rfl s7_17) ?_; refine wsa rfl rfl rfl (q_mulI rfl rfl rfl) ?_; refine wsa rfl rfl rfl (q_move (v := (i64 s13.2)) rfl s8_17) ?_; refine wsa rfl rfl rfl (q_addI rfl rfl rfl) ?_; obtain ⟨c21, hc21, H16⟩ := bsi H16; obtain ⟨c22, hc22, H16⟩ := bsi H16; refine wsa rfl rfl rfl (q_ixA (m := 0) rfl A77 (by exact s6_17) rfl (lenA_eq hc21) hc22) ?_; refine wsq rfl rfl rfl (q_loadE (m := 0) rfl A77 rfl o2_17 (seg_self _ _) hc22) ?_; refine wsa rfl rfl rfl (q_move (v := p1) rfl s1_17) ?_; refine wsa rfl rfl rfl (q_move (v := (i64 s13.2)) rfl s8_17) ?_; refine wsa rfl rfl rfl (q_move (v := (i64 s16.2)) rfl rfl) ?_; refine wsa rfl rfl rfl (q_subI rfl rfl rfl) ?_; refine wsa rfl rfl rfl (q_andI rfl rfl rfl) ?_; obtain ⟨c23, hc23, H16⟩ := bsi H16; obtain ⟨c24, hc24, H16⟩ := bsi H16; refine wsa rfl rfl rfl (q_ixA (m := 0) rfl A87 (by exact s5_17) rfl (lenA_eq hc23) hc24) ?_; refine wsq rfl rfl rfl (q_loadE (m := 0) rfl A87 rfl o1_17 (seg_self _ _) hc24) ?_; refine wsa rfl rfl rfl (q_move (v := (bp gio0)) rfl s0_17) ?_; refine wsa rfl rfl rfl (q_move (v := (i64 s10.2)) rfl s7_17) ?_; refine wsa rfl rfl rfl (q_mulI rfl rfl rfl) ?_; refine wsa rfl rfl rfl (q_move (v := (i64 s16.2)) rfl rfl) ?_; refine wsa rfl rfl rfl (q_addI rfl rfl rfl) ?_; refine wsa rfl rfl rfl (q_nilP rfl rfl) ?_; obtain ⟨c25, hc25, H16⟩ := bsi H16; obtain ⟨c26, hc26, H16⟩ := bsi H16; refine wsa rfl rfl rfl (q_ixA (m := 0) rfl A77 rfl rfl (lenA_eq hc25) hc26) ?_; refine wsq rfl rfl rfl (q_loadE (m := 0) rfl A77 rfl o0_17 (seg_self _ _) hc26) ?_; obtain ⟨r27, hr27, H16⟩ := bsi H16; refine wss rfl rfl rfl (stp_call (vs := [p1, (u8 c24), (u8 c26)]) Try.func48 rfl rfl rfl (ar3 rfl rfl rfl) (field_Mul_calls a1f c24 c26 p1 r27 _ (hp1.lift (Lift.exg0 e20)) hr27) ?_); rintro _ w27 ⟨rfl, x27⟩; refine ⟨_, rfl, x27, ?_⟩; replace o0_17 := o0_17.ext x27; replace o1_17 := o1_17.ext x27; replace o2_17 := o2_17.ext x27; have e28 := e20.trans x27; refine wsa rfl rfl rfl (q_xor8 rfl rfl rfl) ?_; refine wsa rfl rfl rfl (q_ixA (m := 0) rfl A77 (by exact s6_17) rfl (lenA_eq hc21) hc22) ?_
              refine wsn rfl (by kernel_rfl) rfl rfl (stp_storeX (b := (c22 ^^^ r27)) [(bp gio0), (bp g1)] [] rfl A77 rfl rfl o2_17 hc22 (one_u8 _) ?_); intro w29 o29 g29 l29; replace o0_17 := o0_17.other g29 q0_2_17; replace o1_17 := o1_17.other g29 q1_2_17; have e30 := e28.grown g29 n2_17; refine ws_nil ?_; refine bk_n ?_; refine W_th ?_; refine W_reg (by kernel_rfl) ?_; refine wla rfl rfl (q_addI rfl s16_17 rfl) ?_; refine wla rfl rfl (q_move (v := (i64 ((wI (s16.2 + 1))))) rfl rfl) ?_; refine wl_nil ?_; obtain rfl := osi H16; exact ⟨_, rfl, s0_17, s1_17, s5_17, s6_17, s7_17, s8_17, s10_17, s13_17, rfl, s49_17, e30, o0_17, n0_17, o1_17, n1_17, o29, n2_17, q0_1_17, q0_2_17, q1_2_17⟩
            replace H16 := (if_neg (of_decide_eq_false hb18)).symm.trans H16; refine W_exit ?_; refine th_x ?_; obtain rfl := osi H16; obtain rfl := hr16 _ rfl; refine th_x ?_; refine bk_x ?_; exact ⟨s0_17, s1_17, s5_17, s6_17, s7_17, s10_17, s13_17, s49_17, hE17, o0_17, n0_17, o1_17, n1_17, o2_17, n2_17, q0_1_17, q0_2_17, q1_2_17⟩
          rintro _ w32 ⟨s0_32, s1_32, s5_32, s6_32, s7_32, s10_32, s13_32, s49_32, hE32, o0_32, n0_32, o1_32, n1_32, o2_32, n2_32, q0_1_32, q0_2_32, q1_2_32⟩; refine bk_n ?_; refine W_th ?_; refine W_reg (by kernel_rfl) ?_; refine wla rfl rfl (q_addI rfl s13_32 rfl) ?_; refine wla rfl rfl (q_move (v := (i64 ((wI (s13.2 + 1))))) rfl rfl) ?_; refine wl_nil ?_; obtain rfl := osi H13; exact ⟨_, rfl, s0_32, s1_32, s5_32, s6_32, s7_32, s10_32, rfl, s49_32, hE32, o0_32, n0_32, o1_32, n1_32, o2_32, n2_32, q0_1_32, q0_2_32, q1_2_32⟩
        replace H13 := (if_neg (of_decide_eq_false hb15)).symm.trans H13; refine W_exit ?_; refine th_x ?_; obtain rfl := osi H13; obtain rfl := hr13 _ rfl; refine th_x ?_; refine bk_x ?_; exact ⟨s0_14, s1_14, s5_14, s6_14, s10_14, s49_14, hE14, o0_14, n0_14, o1_14, n1_14, o2_14, n2_14, q0_1_14, q0_2_14, q1_2_14⟩
      rintro _ w35 ⟨s0_35, s1_35, s5_35, s6_35, s10_35, s49_35, hE35, o0_35, n0_35, o1_35, n1_35, o2_35, n2_35, q0_1_35, q0_2_35, q1_2_35⟩; refine bk_n ?_; refine W_th ?_; refine W_reg (by kernel_rfl) ?_; refine wla rfl rfl (q_addI rfl s10_35 rfl) ?_; refine wla rfl rfl (q_move (v := (i64 ((wI (s10.2 + 1))))) rfl rfl) ?_; refine wl_nil ?_; obtain rfl := osi H10; exact ⟨_, rfl, s0_35, s1_35, s5_35, s6_35, rfl, s49_35, hE35, o0_35, n0_35, o1_35, n1_35, o2_35, n2_35, q0_1_35, q0_2_35, q1_2_35⟩
    replace H10 := (if_neg (of_decide_eq_false hb12)).symm.trans H10; refine W_exit ?_; refine th_x ?_; obtain rfl := osi H10; obtain rfl := hr10 _ rfl; refine th_x ?_; refine bk_x ?_; exact ⟨s0_11, s6_11, s49_11, hE11, o0_11, n0_11, o2_11, n2_11, q0_2_11⟩
  rintro _ w38 ⟨s0_38, s6_38, s49_38, hE38, o0_38, n0_38, o1_38, n1_38, q0_1_38⟩; refine W_th ?_; refine W_reg (by kernel_rfl) ?_; refine wla rfl rfl (q_move (v := (bp gio0)) rfl s0_38) ?_; obtain ⟨c39, hc39, H⟩ := bsi H; refine wlq rfl rfl (q_loadA (m := 0) rfl A77 (by exact s6_38) o1_38 (seg_self _ _) (lenA_eq hc39)) ?_; refine wla rfl rfl (q_nilP rfl rfl) ?_; obtain ⟨c41, hc41, H⟩ := bsi H; refine wln rfl rfl (stp_storeA [] [(bp g5)] rfl A77 rfl rfl (lenA_eq hc41) (lenA_eq hc39) o0_38 one_u8 ?_); intro w40 o40 g40 l40; replace o1_38 := o1_38.other g40 q0_1_38.symm; have e42 := hE38.grown g40 n0_38; refine wl_nil ?_; refine rtn ?_; obtain rfl := osi H; refine rt0 rfl s49_38 ?_; exact ⟨rfl, e42, o40⟩
noncomputable def cipher_through (a0box : List UInt8) (a1b : List UInt8) : Option (List UInt8) :=
((slices_Clone_sbytebyte a1b).bind fun r1 =>
((iterC (fun s4 : List UInt8 × Int =>
(if s4.2 < (a1b.length : Int) then
((idx a1b s4.2).bind fun c7 =>
((lenA 256 a0box).bind fun c8 =>
((idx a0box ((c7.toNat : Int))).bind fun c9 =>
((idx s4.1 s4.2).bind fun c10 => some (.inl ((s4.1.set (s4.2 : Int).toNat c9), (wI (s4.2 + 1))))))))
else some (.inr s4.1))) (r1, 0)).bind fun x4 => some x4))
set_option maxRecDepth 100000 in
set_option maxHeartbeats 8000000 in
theorem cipher_through_calls (a0box : List UInt8) (a1b : List UInt8) (p0 : Value) (p1 : Value) (r : List UInt8) (w0 : World) (hp0 : Pa w0 [] p0 a0box) (hp1 : By w0 [] p1 a1b) (H : cipher_through a0box a1b = some r) :
    Calls Try.prog 47 [p0, p1].toArray w0 (fun e w' => ∃ u0 : Value, e = .returned u0 ∧ Ext w0 w' ∧ Nw w0 u0 ∧ OwK (Sc u8) w' [] 5 u0 r) := by
  have hE : Ext w0 w0 := Ext.refl w0; unfold cipher_through at H; refine calls_W (n := 27) Try.func47 rfl rfl rfl ?_; refine W_seq ?_; refine W_reg (by kernel_rfl) ?_; refine wla rfl rfl (q_assign (v := (.slice none 0 0)) rfl rfl) ?_; refine wl_nil ?_; refine W_th ?_; refine W_seq ?_; refine W_reg (by kernel_rfl) ?_; refine wla rfl rfl (q_move (v := p1) rfl rfl) ?_; obtain ⟨r1, hr1, H⟩ := bsi H; refine wls rfl rfl (stp_call (vs := [p1]) Try.func46 rfl rfl rfl (ar1 rfl) (slices_Clone_sbytebyte_calls a1b p1 r1 _ (hp1.lift (Lift.ext hE _)) hr1) ?_); rintro _ w1 ⟨v1, rfl, x1, n1_0, o1_0⟩; refine ⟨_, rfl, ?_⟩; have o1 : OwK (Sc u8) w1 (v1 :: []) 5 v1 r1 := OwK.scal o1_0 _; have n3 := Nw.ext hE n1_0; have e2 := hE.trans x1; refine wla rfl rfl (q_assign (v := v1) rfl rfl) ?_; refine wl_nil ?_; refine W_th ?_; refine W_seq ?_; refine W_seq ?_; refine W_reg (by kernel_rfl) ?_; refine wla rfl rfl (q_move (v := p1) rfl rfl) ?_; refine wla rfl rfl (q_len rfl T22.sl rfl (hp1.lift (Lift.ext e2 _))) ?_; refine wla rfl rfl (q_move (v := (i64 0)) rfl rfl) ?_; refine wl_nil ?_; refine W_th ?_; obtain ⟨x4, G4, H⟩ := bsi H; refine W_mid (fun f w => f 5 = v1 ∧ f 27 = undef ∧ Ext w0 w ∧ OwK (Sc u8) w [v1] 5 v1 x4 ∧ Nw w0 v1) ?_ ?_
  · refine W_block ?_; refine W_loop (fun s4 f w => f 0 = p0 ∧ f 5 = v1 ∧ f 10 = p1 ∧ f 11 = (i64 ((a1b.length : Int))) ∧ f 12 = (i64 s4.2) ∧ f 27 = undef ∧ Ext w0 w ∧ OwK (Sc u8) w [v1] 5 v1 s4.1 ∧ Nw w0 v1) G4 ?_ ?_
    · exact ⟨rfl, rfl, rfl, rfl, rfl, rfl, e2, o1, n3⟩
    rintro s4 _ _ w5 ⟨s0_5, s5_5, s10_5, s11_5, s12_5, s27_5, hE5, o0_5, n0_5⟩ H4 hr4; refine W_seq ?_; refine W_reg (by kernel_rfl) ?_; refine wla rfl rfl (q_ltI rfl s12_5 s11_5) ?_; refine wl_nil ?_; refine W_th ?_; refine W_seq ?_; refine W_cond _ rfl rfl (fun hb6 => ?_) (fun hb6 => ?_)
    · replace H4 := (if_pos (of_decide_eq_true hb6)).symm.trans H4; refine W_skip ?_; refine W_th ?_; refine W_seq ?_; refine W_block ?_; refine W_seq ?_; refine W_reg (by kernel_rfl) ?_; refine wla rfl rfl (q_move (v := (i64 s4.2)) rfl s12_5) ?_; obtain ⟨c7, hc7, H4⟩ := bsi H4; refine wla rfl rfl (q_adr rfl T22 s10_5 s12_5 (hp1.lift (Lift.ext hE5 _)) hc7) ?_; refine wlq rfl rfl (q_loadS rfl T22 rfl (hp1.lift (Lift.ext hE5 _)) hc7) ?_; refine wla rfl rfl (q_assign (v := (i64 s4.2)) rfl rfl) ?_; refine wla rfl rfl (q_assign (v := (u8 c7)) rfl rfl) ?_; refine wl_nil ?_; refine W_th ?_; refine W_reg (by kernel_rfl) ?_; refine wla rfl rfl (q_move (v := v1) rfl s5_5) ?_; refine wla rfl rfl (q_move (v := (i64 s4.2)) rfl rfl) ?_; refine wla rfl rfl (q_move (v := p0) rfl s0_5) ?_; refine wla rfl rfl (q_move (v := (u8 c7)) rfl rfl) ?_; refine wla rfl rfl (q_nilPa rfl rfl (hp0.lift (Lift.ext hE5 _))) ?_; obtain ⟨c8, hc8, H4⟩ := bsi H4; obtain ⟨c9, hc9, H4⟩ := bsi H4; refine wla rfl rfl (q_ixPa8 rfl A64 rfl (hp0.lift (Lift.ext hE5 _)) rfl (lenA_eq hc8) hc9) ?_; refine wlq rfl rfl (q_loadPa rfl T22 rfl (hp0.lift (Lift.ext hE5 _)) hc9) ?_; obtain ⟨c10, hc10, H4⟩ := bsi H4; refine wla rfl rfl (q_adr rfl T22 rfl rfl (o0_5.rd (Sc.stab _)) hc10) ?_; refine wln rfl rfl (stp_store (R := (Sc u8)) (u := (u8 c9)) (Sc.stab _) [] [] rfl T22 rfl rfl o0_5 (put_of c9 hc10) rfl rfl ?_); intro w11 o11 g11 l11; have e12 := hE5.grown g11 n0_5; refine wl_nil ?_; refine bk_n ?_; refine W_th ?_; refine W_reg (by kernel_rfl) ?_; refine wla rfl rfl (q_addI rfl s12_5 rfl) ?_; refine wla rfl rfl (q_move (v := (i64 ((wI (s4.2 + 1))))) rfl rfl) ?_; refine wl_nil ?_; obtain rfl := osi H4; exact ⟨_, rfl, s0_5, s5_5, s10_5, s11_5, rfl, s27_5, e12, o11, n0_5⟩
    replace H4 := (if_neg (of_decide_eq_false hb6)).symm.trans H4; refine W_exit ?_; refine th_x ?_; obtain rfl := osi H4; obtain rfl := hr4 _ rfl; refine th_x ?_; refine bk_x ?_; exact ⟨s5_5, s27_5, hE5, o0_5, n0_5⟩
  rintro _ w14 ⟨s5_14, s27_14, hE14, o0_14, n0_14⟩; refine W_th ?_; refine W_seq ?_; refine W_reg (by kernel_rfl) ?_; refine wla rfl rfl (q_move (v := v1) rfl s5_14) ?_; refine wla rfl rfl (q_assign (v := v1) rfl rfl) ?_; refine wl_nil ?_; refine W_th ?_; refine W_ret ?_; obtain rfl := osi H; refine rt1 v1 rfl rfl rfl s27_14 ?_; exact ⟨v1, rfl, hE14, n0_14, (o0_14.weak (Sc.stab _) (fun _ _ => trivial))⟩
noncomputable def word_Xor (a0a : List UInt8) (a1b : List UInt8) : Option (List UInt8) :=
((makeL ((if (a1b.length : Int) < (a0a.length : Int) then (a1b.length : Int) else (a0a.length : Int))) (0 : UInt8)).bind fun c1 =>
((iterC (fun s4 : List UInt8 × Int =>
(if s4.2 < (c1.length : Int) then
((idx a0a s4.2).bind fun c9 =>
((idx a1b s4.2).bind fun c10 =>
((idx s4.1 s4.2).bind fun c11 => some (.inl ((s4.1.set (s4.2 : Int).toNat ((c9 ^^^ c10))), (wI (s4.2 + 1)))))))
else some (.inr s4.1))) (c1, 0)).bind fun x4 => some x4))
set_option maxRecDepth 100000 in
set_option maxHeartbeats 8000000 in
theorem word_Xor_calls (a0a : List UInt8) (a1b : List UInt8) (p0 : Value) (p1 : Value) (r : List UInt8) (w0 : World) (hp0 : By w0 [] p0 a0a) (hp1 : By w0 [] p1 a1b) (H : word_Xor a0a a1b = some r) :
    Calls Try.prog 49 [p0, p1].toArray w0 (fun e w' => ∃ u0 : Value, e = .returned u0 ∧ Ext w0 w' ∧ Nw w0 u0 ∧ OwK (Sc u8) w' [] 5 u0 r) := by
  have hE : Ext w0 w0 := Ext.refl w0; unfold word_Xor at H; refine calls_W (n := 32) Try.func49 rfl rfl rfl ?_; refine W_seq ?_; refine W_reg (by kernel_rfl) ?_; refine wla rfl rfl (q_assign (v := (.slice none 0 0)) rfl rfl) ?_; refine wl_nil ?_; refine W_th ?_; refine W_seq ?_; refine W_reg (by kernel_rfl) ?_; refine wla rfl rfl (q_move (v := p0) rfl rfl) ?_; refine wla rfl rfl (q_len rfl T22.sl rfl (hp0.lift (Lift.ext hE _))) ?_; refine wla rfl rfl (q_move (v := p1) rfl rfl) ?_; refine wla rfl rfl (q_len rfl T22.sl rfl (hp1.lift (Lift.ext hE _))) ?_; refine wla rfl rfl (q_minI rfl rfl rfl) ?_; obtain ⟨c1, hc1, H⟩ := bsi H; refine wls rfl rfl (stp_make (L := []) (R := (Sc u8)) rfl T22 rfl rfl hc1 (fun _ _ => rfl) ?_); intro v1 w1 o1 n1 g1 l1; have x1 := grown_ext g1; have n3 := Nw.ext hE n1; have e2 := hE.trans x1; refine wla rfl rfl (q_assign (v := v1) rfl rfl) ?_; refine wl_nil ?_; refine W_th ?_; refine W_seq ?_; refine W_seq ?_; refine W_reg (by kernel_rfl) ?_; refine wla rfl rfl (q_move (v := v1) rfl rfl) ?_; refine wla rfl rfl (q_len rfl T22.sl rfl (o1.rd (Sc.stab _))) ?_; refine wla rfl rfl (q_move (v := (i64 0)) rfl rfl) ?_; refine wl_nil ?_; refine W_th ?_; obtain ⟨x4, G4, H⟩ := bsi H; refine W_mid (fun f w => f 5 = v1 ∧ f 32 = undef ∧ Ext w0 w ∧ OwK (Sc u8) w [v1] 5 v1 x4 ∧ Nw w0 v1) ?_ ?_
  · refine W_block ?_; refine W_loop (fun s4 f w => f 0 = p0 ∧ f 1 = p1 ∧ f 5 = v1 ∧ f 14 = (i64 ((c1.length : Int))) ∧ f 15 = (i64 s4.2) ∧ f 32 = undef ∧ Ext w0 w ∧ OwK (Sc u8) w [v1] 5 v1 s4.1 ∧ Nw w0 v1) G4 ?_ ?_
    · exact ⟨rfl, rfl, rfl, rfl, rfl, rfl, e2, o1, n3⟩
    rintro s4 _ _ w5 ⟨s0_5, s1_5, s5_5, s14_5, s15_5, s32_5, hE5, o0_5, n0_5⟩ H4 hr4; refine W_seq ?_; refine W_reg (by kernel_rfl) ?_; refine wla rfl rfl (q_ltI rfl s15_5 s14_5) ?_; refine wl_nil ?_; refine W_th ?_; refine W_seq ?_; refine W_cond _ rfl rfl (fun hb6 => ?_) (fun hb6 => ?_)
    · replace H4 := (if_pos (of_decide_eq_true hb6)).symm.trans H4; refine W_skip ?_; refine W_th ?_; refine W_seq ?_; refine W_block ?_; refine W_seq ?_; refine W_reg (by kernel_rfl) ?_; refine wla rfl rfl (q_move (v := (i64 s4.2)) rfl s15_5) ?_; refine wla rfl rfl (q_assign (v := (i64 s4.2)) rfl rfl) ?_; refine wl_nil ?_; refine W_th ?_; refine W_draw [5, 9] [(0, 0), (1, 0), (2, 0), (3, 0), (4, 0), (5, 1), (6, 0), (7, 0), (8, 0), (9, 1), (10, 0), (11, 0), (12, 2)] mixed (by kernel_rfl) (by kernel_rfl) (by kernel_rfl) (by kernel_rfl) ?_; have x7 := Ext.drew w5; replace o0_5 := o0_5.extL (Sc.stab _) x7 (Lift.ext x7 _); have e8 := hE5.trans x7; refine wsa rfl rfl rfl (q_move (v := v1) rfl s5_5) ?_; refine wsa rfl rfl rfl (q_move (v := (i64 s4.2)) rfl rfl) ?_; refine wsa rfl rfl rfl (q_move (v := p0) rfl s0_5) ?_; refine wsa rfl rfl rfl (q_move (v := (i64 s4.2)) rfl rfl) ?_; obtain ⟨c9, hc9, H4⟩ := bsi H4; refine wsa rfl rfl rfl (q_adr rfl T22 rfl rfl (hp0.lift (Lift.ext e8 _)) hc9) ?_; refine wsq rfl rfl rfl (q_loadS rfl T22 rfl (hp0.lift (Lift.ext e8 _)) hc9) ?_; refine wsa rfl rfl rfl (q_move (v := p1) rfl s1_5) ?_; refine wsa rfl rfl rfl (q_move (v := (i64 s4.2)) rfl rfl) ?_; obtain ⟨c10, hc10, H4⟩ := bsi H4; refine wsa rfl rfl rfl (q_adr rfl T22 rfl rfl (hp1.lift (Lift.ext e8 _)) hc10) ?_; refine wsq rfl rfl rfl (q_loadS rfl T22 rfl (hp1.lift (Lift.ext e8 _)) hc10) ?_; refine wsa rfl rfl rfl (q_xor8 rfl rfl rfl) ?_; obtain ⟨c11, hc11, H4⟩ := bsi H4; refine wsa rfl rfl rfl (q_adr rfl T22 rfl rfl (o0_5.rd (Sc.stab _)) hc11) ?_; refine wsn rfl (by kernel_rfl) rfl rfl (stp_store (R := (Sc u8)) (u := (u8 ((c9 ^^^ c10)))) (Sc.stab _) [] [] rfl T22 rfl rfl o0_5 (put_of ((c9 ^^^ c10)) hc11) rfl rfl ?_); intro w12 o12 g12 l12; have e13 := e8.grown g12 n0_5; refine ws_nil ?_; refine bk_n ?_; refine W_th ?_; refine W_reg (by kernel_rfl) ?_; refine wla rfl rfl (q_addI rfl s15_5 rfl) ?_; refine wla rfl rfl (q_move (v := (i64 ((wI (s4.2 + 1))))) rfl rfl) ?_; refine wl_nil ?_; obtain rfl := osi H4; exact ⟨_, rfl, s0_5, s1_5, s5_5, s14_5, rfl, s32_5, e13, o12, n0_5⟩
    replace H4 := (if_neg (of_decide_eq_false hb6)).symm.trans H4; refine W_exit ?_; refine th_x ?_; obtain rfl := osi H4; obtain rfl := hr4 _ rfl; refine th_x ?_; refine bk_x ?_; exact ⟨s5_5, s32_5, hE5, o0_5, n0_5⟩
  rintro _ w15 ⟨s5_15, s32_15, hE15, o0_15, n0_15⟩; refine W_th ?_; refine W_seq ?_; refine W_reg (by kernel_rfl) ?_; refine wla rfl rfl (q_move (v := v1) rfl s5_15) ?_; refine wla rfl rfl (q_assign (v := v1) rfl rfl) ?_; refine wl_nil ?_; refine W_th ?_; refine W_ret ?_; obtain rfl := osi H; refine rt1 v1 rfl rfl rfl s32_15 ?_; exact ⟨v1, rfl, hE15, n0_15, (o0_15.weak (Sc.stab _) (fun _ _ => trivial))⟩
noncomputable def cipher_add (a0s : List UInt8) (a1key : List UInt8) : Option (List UInt8) :=
((lenA 16 a0s).bind fun c7 =>
((lenA 16 a1key).bind fun c8 =>
((word_Xor a0s a1key).bind fun r9 => some (copyL a0s 0 r9))))
set_option maxRecDepth 100000 in
set_option maxHeartbeats 8000000 in
theorem cipher_add_calls (a0s : List UInt8) (a1key : List UInt8) (gio0 : Nat) (r : List UInt8) (w0 : World) (hio0 : Blk w0 gio0 77 (ac u8 a0s)) (H : cipher_add a0s a1key = some r) :
    Calls Try.prog 53 [(bp gio0), (ag u8 a1key)].toArray w0 (fun e w' => e = .returned (.tuple #[]) ∧ ExG [(bp gio0)] w0 w' ∧ Blk w' gio0 77 (ac u8 r)) := by
  have hE : ExG [(bp gio0)] w0 w0 := ExG.refl _ w0; unfold cipher_add at H; refine calls_W (n := 13) Try.func53 rfl rfl rfl ?_; refine W_seq ?_; refine W_reg (by kernel_rfl) ?_; refine wls rfl rfl (stp_boxL (v := (ag u8 a1key)) (cs := (ac u8 a1key)) [(bp gio0)] rfl rfl rfl ?_); intro g1 w1 o1 n1 g1r l1; have x1 := grown_ext g1r; have q2 : Nq (bp gio0) (bp g1) := hio0.nq n1; replace hio0 := hio0.ext x1; have n4 := NS.ext hE n1; have e3 := hE.trans x1; refine wl_nil ?_; refine W_th ?_; refine W_draw [] [(0, 0), (1, 0), (2, 0), (3, 0), (4, 0), (5, 0), (6, 0), (7, 2), (8, 2)] mixed (by kernel_rfl) (by kernel_rfl) (by kernel_rfl) (by kernel_rfl) ?_; have x5 := Ext.drew w1; replace o1 := o1.ext x5; replace hio0 := hio0.ext x5; have e6 := e3.trans x5; refine wsa rfl rfl rfl (q_move (v := (bp gio0)) rfl rfl) ?_; refine wsa rfl rfl rfl (q_nilP rfl rfl) ?_; obtain ⟨c7, hc7, H⟩ := bsi H; refine wsa rfl rfl rfl (q_sliceA rfl A77 rfl) ?_; refine wsa rfl rfl rfl (q_move (v := (bp gio0)) rfl rfl) ?_; refine wsa rfl rfl rfl (q_nilP rfl rfl) ?_; refine wsa rfl rfl rfl (q_sliceA rfl A77 rfl) ?_; obtain ⟨c8, hc8, H⟩ := bsi H; refine wsa rfl rfl rfl (q_sliceA rfl A77 rfl) ?_; obtain ⟨r9, hr9, H⟩ := bsi H; refine wsc rfl (by kernel_rfl) rfl rfl (stp_call (vs := [(.slice (some ⟨gio0, 0, none⟩) 16 16), (.slice (some ⟨g1, 0, none⟩) 16 16)]) Try.func49 rfl rfl rfl (ar2 rfl rfl) (word_Xor_calls a0s a1key (.slice (some ⟨gio0, 0, none⟩) 16 16) (.slice (some ⟨g1, 0, none⟩) 16 16) r9 _ (Blk.by hio0 (lenA_eq hc7)) (Blk.by o1 (lenA_eq hc8)) hr9) ?_); rintro _ w9 ⟨v9, rfl, x9, n9_0, o9_0⟩; refine ⟨_, rfl, ?_⟩; have i9_0 : By w9 [(bp g1), (bp gio0)] v9 r9 := OwK.slk (Sc.stab _) _ (OwK.scal o9_0 (v9 :: [(bp g1), (bp gio0)])) (fun k hk => (Old.cons (Old.cons (Old.nil _) hio0.ltB) o1.ltB) k (n9_0 k hk)) (fun _ h => h.2); replace o1 := o1.ext x9; replace hio0 := hio0.ext x9; have e10 := e6.trans x9; refine wsc rfl (by kernel_rfl) rfl rfl (stp_copyA (u := v9) [(bp g1)] [] rfl T22 rfl rfl hio0 (lenA_eq hc7) i9_0 ?_); intro w11 o11 g11 l11; replace i9_0 := i9_0.lift l11; replace o1 := o1.other g11 q2.symm; have e12 := e10.grown g11 NS.own; refine ws_nil ?_; refine rtn ?_; obtain rfl := osi H; refine rt0 rfl rfl ?_; exact ⟨rfl, e12, o11⟩
noncomputable def cipher_box (a0s : List UInt8) (a1b : List UInt8) : Option (List UInt8) :=
((lenA 16 a0s).bind fun c3 =>
((cipher_through a1b a0s).bind fun r4 => some (copyL a0s 0 r4)))
set_option maxRecDepth 100000 in
set_option maxHeartbeats 8000000 in
theorem cipher_box_calls (a0s : List UInt8) (a1b : List UInt8) (gio0 : Nat) (p1 : Value) (r : List UInt8) (w0 : World) (hio0 : Blk w0 gio0 77 (ac u8 a0s)) (hp1 : Pa w0 [(bp gio0)] p1 a1b) (H : cipher_box a0s a1b = some r) :
    Calls Try.prog 54 [(bp gio0), p1].toArray w0 (fun e w' => e = .returned (.tuple #[]) ∧ ExG [(bp gio0)] w0 w' ∧ Blk w' gio0 77 (ac u8 r)) := by
  have hE : ExG [(bp gio0)] w0 w0 := ExG.refl _ w0; unfold cipher_box at H; refine calls_W (n := 13) Try.func54 rfl rfl rfl ?_; refine W_draw [] [(0, 0), (1, 0), (2, 0), (3, 0), (4, 0), (5, 0), (6, 0), (7, 2), (8, 2)] mixed (by kernel_rfl) (by kernel_rfl) (by kernel_rfl) (by kernel_rfl) ?_; have x1 := Ext.drew w0; replace hio0 := hio0.ext x1; have e2 := hE.trans x1; refine wsa rfl rfl rfl (q_move (v := (bp gio0)) rfl rfl) ?_; refine wsa rfl rfl rfl (q_nilP rfl rfl) ?_; obtain ⟨c3, hc3, H⟩ := bsi H; refine wsa rfl rfl rfl (q_sliceA rfl A77 rfl) ?_; refine wsa rfl rfl rfl (q_move (v := p1) rfl rfl) ?_; refine wsa rfl rfl rfl (q_move (v := (bp gio0)) rfl rfl) ?_; refine wsa rfl rfl rfl (q_nilP rfl rfl) ?_; refine wsa rfl rfl rfl (q_sliceA rfl A77 rfl) ?_; obtain ⟨r4, hr4, H⟩ := bsi H; refine wsc rfl (by kernel_rfl) rfl rfl (stp_call (vs := [p1, (.slice (some ⟨gio0, 0, none⟩) 16 16)]) Try.func47 rfl rfl rfl (ar2 rfl rfl) (cipher_through_calls a1b a0s p1 (.slice (some ⟨gio0, 0, none⟩) 16 16) r4 _ (hp1.lift (Lift.exg0 e2)) (Blk.by hio0 (lenA_eq hc3)) hr4) ?_); rintro _ w4 ⟨v4, rfl, x4, n4_0, o4_0⟩; refine ⟨_, rfl, ?_⟩; have i4_0 : By w4 [(bp gio0)] v4 r4 := OwK.slk (Sc.stab _) _ (OwK.scal o4_0 (v4 :: [(bp gio0)])) (fun k hk => (Old.cons (Old.nil _) hio0.ltB) k (n4_0 k hk)) (fun _ h => h.2); replace hio0 := hio0.ext x4; have e5 := e2.trans x4; refine wsc rfl (by kernel_rfl) rfl rfl (stp_copyA (u := v4) [] [] rfl T22 rfl rfl hio0 (lenA_eq hc3) i4_0 ?_); intro w6 o6 g6 l6; replace i4_0 := i4_0.lift l6; have e7 := e5.grown g6 NS.own; refine ws_nil ?_; refine rtn ?_; obtain rfl := osi H; refine rt0 rfl rfl ?_; exact ⟨rfl, e7, o6⟩
end Gk

/- Slices of arrays of sixteen bytes, read and owned. No condition. -/
set_option linter.unusedVariables false
set_option linter.unusedSimpArgs false
namespace Gk
open Go Go.RowKit
theorem Tn.low {B k : Nat} {w w' : World} {o : Obj} (h : Tn B w w') (ho : w.heap[k]? = some o) (hk : k < B) : w'.heap[k]? = some o := by
  obtain ⟨row, hg, hr⟩ := h
  exact (hg.block k (lt_of_get ho) (fun e => by have := (hr k e.symm).1; omega)).trans ho
def L16 (l : List (List UInt8)) : Prop := ∀ x ∈ l, x.length = 16
theorem L16.nil : L16 [] := fun x h => by cases h
theorem L16.tail {x : List UInt8} {l : List (List UInt8)} (h : L16 (x :: l)) : L16 l := fun y hy => h y (List.mem_cons_of_mem _ hy)
theorem L16.app {l m : List (List UInt8)} (h : L16 l) (k : L16 m) : L16 (l ++ m) := fun y hy => (List.mem_append.1 hy).elim (h y) (k y)
theorem L16.flat : ∀ {l : List (List UInt8)}, L16 l → l.flatten.length = 16 * l.length
  | [], _ => rfl
  | x :: l, h => by
    have := L16.flat h.tail
    have h1 := h x (List.mem_cons_self ..)
    simp only [List.flatten_cons, List.length_append, List.length_cons]; omega
theorem L16.cut : ∀ {l : List (List UInt8)}, L16 l → ∀ (a b : Nat), (l.flatten.take (16 * b)).drop (16 * a) = ((l.take b).drop a).flatten
  | [], _, a, b => by simp
  | x :: l, h, a, 0 => by simp
  | x :: l, h, 0, b + 1 => by
    have h1 := h x (List.mem_cons_self ..)
    have ih := L16.cut h.tail 0 b
    simp only [Nat.mul_zero, List.drop_zero] at ih ⊢
    rw [List.flatten_cons, List.take_append, List.take_of_length_le (by omega), show 16 * (b + 1) - x.length = 16 * b by omega, ih]
    simp
  | x :: l, h, a + 1, b + 1 => by
    have h1 := h x (List.mem_cons_self ..)
    have ih := L16.cut h.tail a b
    rw [List.flatten_cons, List.take_append, List.take_of_length_le (by omega), show 16 * (b + 1) - x.length = 16 * b by omega, List.drop_append, List.drop_of_length_le (by omega), show 16 * (a + 1) - x.length = 16 * a by omega, ih]
    simp
theorem L16.at {l : List (List UInt8)} (h : L16 l) {i : Nat} (hi : i < l.length) : (l.flatten.take (16 * (i + 1))).drop (16 * i) = l[i] := by
  rw [h.cut i (i + 1), List.take_add_one, List.drop_append, List.drop_of_length_le (by simp; omega)]
  simp [hi, Nat.min_eq_left (Nat.le_of_lt hi)]
structure TyK (P : Program) (t e b : TypeId) : Prop where
  sl : P.underlying t = some (.slice e)
  arr : TyA P e b 16
  info : (P.info? e).map (fun i => (i.zero, i.size, i.bytes)) = some (some (ag u8 (List.replicate 16 (0 : UInt8))), 16, 16)
def Ka (w : World) (L : List Value) (v : Value) (l : List (List UInt8)) : Prop :=
  L16 l ∧ ∃ p cap, v = .slice p l.length cap ∧ l.length ≤ cap ∧ By w L (.slice p (16 * l.length) (16 * cap)) l.flatten
theorem Ka.lift {w w' : World} {L L' : List Value} {v : Value} {l : List (List UInt8)} (h : Ka w L v l) (g : Lift w w' L L') : Ka w' L' v l := by
  obtain ⟨h1, p, cap, hv, hc, hb⟩ := h
  exact ⟨h1, p, cap, hv, hc, hb.lift g⟩
theorem Ka.oc {w : World} {L : List Value} {v : Value} {l : List (List UInt8)} (h : Ka w L v l) : v.oneCell' = true := by
  obtain ⟨_, p, cap, rfl, _⟩ := h; rfl
def adk (v : Value) (i : Nat) : Value := match v with | .slice (some a) _ _ => .pointer (some (a.add (i * 16))) | _ => undef
def subK (v : Value) (lo hi : Nat) : Value := match v with | .slice a _ cap => .slice (if cap = lo then a else a.map (·.add (lo * 16))) (hi - lo) (cap - lo) | v => v
section
variable {P : Program} {o : Oper} {f : Nat → Value} {w : World} {L : List Value} {t e b : TypeId} {v : Value} {l m : List (List UInt8)} {x y : Operand} {i : Int} {a : List UInt8}
theorem q_lenK (ho : o.op = .call ⟨.builtin .len, #[x], #[t]⟩) (ht : P.underlying t = some (.slice e)) (hx : ev f x = v) (h : Ka w L v l) : Qa P o f (i64 (l.length : Int)) := by
  obtain ⟨_, p, cap, rfl, _⟩ := h
  intro w'
  rw [exec_builtin _ ho]
  simp [builtin, Builtin.len_, run_underlying ht, hx, goInt, i64]
theorem By.cell {p : Option Addr} {n cap : Nat} {d : List UInt8} (h : By w L (.slice p n cap) d) (h0 : 0 < n) : ∃ g off, p = some ⟨g, off, none⟩ ∧ Av L g ∧ ∀ j u, (d.map u8)[j]? = some u → w.cell? ⟨g, off + j, none⟩ = some u := by
  obtain ⟨us, ⟨p', cap', hv, hc, hne⟩, hl, he⟩ := h
  cases hv
  obtain ⟨g, off, rfl, ha, hr⟩ := hne (fun e => by subst e; simp at h0)
  refine ⟨g, off, rfl, ha, fun j u hj => ?_⟩
  obtain ⟨hj', rfl⟩ := List.getElem?_eq_some_iff.1 hj
  have h1 : j < us.length := by rw [hl]; simpa using hj'
  rw [hr j h1]
  have := he j h1 (by simpa using hj')
  simp only [Sc] at this
  simp [this]
theorem By.len {p : Option Addr} {n cap : Nat} {d : List UInt8} (h : By w L (.slice p n cap) d) : n = d.length := by
  obtain ⟨us, ⟨p', cap', hv, _, _⟩, hl, _⟩ := h
  cases hv; exact hl
theorem q_adrK (ho : o.op = .indexAddr t x y) (T : TyK P t e b) (hx : ev f x = v) (hy : ev f y = i64 i) (h : Ka w L v l) (hi : idx l i = some a) : Qa P o f (adk v i.toNat) := by
  intro w'
  obtain ⟨h16, p, cap, rfl, hc, hb⟩ := h
  obtain ⟨h0, h1, _⟩ := idx_some.1 hi
  obtain ⟨g, off, rfl, _⟩ := hb.cell (by omega)
  have hlt : i < (l.length : Int) := by omega
  simp [execOp, ho, hx, hy, i64, Instr.indexAt, asIntOf, run_underlying T.sl, T.arr.size, h0, hlt, adk]
theorem q_loadK (ho : o.op = .load e x) (T : TyK P t e b) (hx : ev f x = adk v i.toNat) (h : Ka w L v l) (hi : idx l i = some a) : Qt P o f w (ag u8 a) := by
  obtain ⟨h16, p, cap, rfl, hc, hb⟩ := h
  obtain ⟨h0, h1, rfl⟩ := idx_some.1 hi
  obtain ⟨g, off, rfl, _, hr⟩ := hb.cell (by omega)
  intro w' hE
  have hl : l[i.toNat].length = 16 := h16 _ (List.getElem_mem _)
  have h2 := h16.at (i := i.toNat) (by omega)
  have hcs := run_loadCells_list (P := P) w' ⟨g, off + i.toNat * 16, none⟩ (l[i.toNat].map u8) (fun j u hj => by
    have hj' : j < 16 := by have := (List.getElem?_eq_some_iff.1 hj).1; simp [hl] at this; exact this
    have h3 : (l.flatten.map u8)[16 * i.toNat + j]? = some u := by
      rw [← hj, ← h2]
      simp only [List.getElem?_map, List.getElem?_drop, List.getElem?_take]
      rw [if_pos (by omega)]
    have h4 := hr _ _ h3
    rw [add_off]
    rw [show off + i.toNat * 16 + j = off + (16 * i.toNat + j) by omega]
    rw [World.cell?_of_block (w := w) (hE.blk g (World.block_lt_of_cell? w _ h4))]
    exact h4)
  rw [List.length_map, hl] at hcs
  simp [execOp, ho, hx, adk, add_off, Instr.loadAt, Instr.sureAddr, loadVar, T.arr.agg, T.arr.size, hcs, ag, ac]
theorem Ka.cut (h : Ka w L v l) {lo hi : Int} (hs : subL l lo hi = some m) : Ka w L (subK v lo.toNat hi.toNat) m := by
  obtain ⟨h16, p, cap, rfl, hc, hb⟩ := h
  obtain ⟨⟨h0, h1, h2⟩, rfl⟩ := subL_some.1 hs
  have hlen : ((l.take hi.toNat).drop lo.toNat).length = hi.toNat - lo.toNat := by simp; omega
  have hfl := h16.flat
  refine ⟨fun x hx => h16 x (List.mem_of_mem_take (List.mem_of_mem_drop hx)), _, cap - lo.toNat, by rw [hlen]; rfl, by rw [hlen]; omega, ?_⟩
  have hcut := SlK.cut hb (lo := (16 * lo.toNat : Nat)) (hi := (16 * hi.toNat : Nat)) (subL_some.2 ⟨⟨by omega, by omega, by omega⟩, rfl⟩)
  simp only [Int.toNat_natCast, subV] at hcut
  rw [h16.cut] at hcut
  have e1 : (16 * cap = 16 * lo.toNat) ↔ (cap = lo.toNat) := by omega
  simp only [e1, ← Nat.mul_sub] at hcut
  rw [hlen]
  rw [Nat.mul_comm lo.toNat 16]
  exact hcut
theorem q_sliceK {lo hi : Option Operand} {a c : Int} (ho : o.op = .slice t x lo hi none) (T : TyK P t e b) (hx : ev f x = v) (h : Ka w L v l)
    (hlo : match lo with | none => a = 0 | some y => ev f y = i64 a) (hhi : match hi with | none => c = (l.length : Int) | some y => ev f y = i64 c) (hs : subL l a c = some m) : Qa P o f (subK v a.toNat c.toNat) := by
  intro w'
  obtain ⟨_, p, cap, rfl, hc, _⟩ := h
  obtain ⟨⟨h0, h1, h2⟩, _⟩ := subL_some.1 hs
  have hb : ∀ k w, (Instr.sliceBound (i64 c) cap k).run P w = .ok c.toNat w := fun k w => run_bound rfl (by omega) (by omega) w
  have ha : ∀ k w, (Instr.sliceBound (i64 a) c.toNat k).run P w = .ok a.toNat w := fun k w => run_bound rfl (by omega) (by omega) w
  have ha' : c = (l.length : Int) → ∀ k w, (Instr.sliceBound (i64 a) l.length k).run P w = .ok a.toNat w := fun e k w => run_bound rfl (by omega) (by omega) w
  have hsz := T.arr.size
  cases lo with
  | none =>
    cases hi with
    | none =>
      dsimp only at hlo hhi; subst hlo; subst hhi
      simp [execOp, ho, hx, Instr.sliceAt, run_underlying T.sl, Instr.slice, Instr.sliceBounds, hsz, subK]
    | some y =>
      dsimp only at hlo hhi; subst hlo
      simp [execOp, ho, hx, hhi, Instr.sliceAt, run_underlying T.sl, Instr.slice, Instr.sliceBounds, hsz, hb, subK]
  | some y =>
    cases hi with
    | none =>
      dsimp only at hlo hhi
      have := ha' hhi
      subst hhi
      simp [execOp, ho, hx, hlo, Instr.sliceAt, run_underlying T.sl, Instr.slice, Instr.sliceBounds, hsz, this, subK]
    | some y' =>
      dsimp only at hlo hhi
      simp [execOp, ho, hx, hlo, hhi, Instr.sliceAt, run_underlying T.sl, Instr.slice, Instr.sliceBounds, hsz, ha, hb, subK]
end
def OwS (w : World) (e : TypeId) (v : Value) (l : List (List UInt8)) : Prop :=
  L16 l ∧ ((v = .slice none 0 0 ∧ l = []) ∨ ∃ g cap cur, v = .slice (some ⟨g, 0, none⟩) l.length cap ∧ l ≠ [] ∧ Blk w g e cur ∧ l.length ≤ cap ∧ cap ≤ maxLen ∧ cur.size = cap * 16 ∧ cur.toList.take (l.length * 16) = l.flatten.map u8)
section
variable {w w' : World} {e : TypeId} {u v v' : Value} {l m : List (List UInt8)} {g : Nat}
theorem OwS.nil (w : World) (e : TypeId) : OwS w e (.slice none 0 0) [] := ⟨L16.nil, .inl ⟨rfl, rfl⟩⟩
theorem OwS.cases (h : OwS w e v l) : v = .slice none 0 0 ∨ ∃ g cur, (∀ k, Hs v k ↔ g = k) ∧ Blk w g e cur := by
  rcases h.2 with ⟨rfl, _⟩ | ⟨g, cap, cur, rfl, hl, hB, hc, _⟩
  · exact .inl rfl
  · have h0 : 0 < l.length := List.length_pos_iff.2 hl
    refine .inr ⟨g, cur, fun k => ⟨fun h => ?_, fun h => ?_⟩, hB⟩
    · have := hs_sl h; rw [oB_pos (by omega)] at this; exact Option.some.inj this
    · subst h; exact .inl (oB_pos (by omega))
theorem OwS.lt (h : OwS w e v l) : ∀ k, Hs v k → k < w.heap.size := fun k hk => by
  rcases h.cases with rfl | ⟨g, cur, hg, hB⟩
  · exact absurd hk nh_nil
  · obtain rfl := (hg k).1 hk; exact hB.lt
theorem OwS.ltB (h : OwS w e v l) : ∀ k, Hs v k → k < w.heap.size := h.lt
theorem OwS.cl (h : OwS w e v l) : Cl w v := fun k hk => by
  rcases h.cases with rfl | ⟨g, cur, hg, hB⟩
  · exact absurd hk nh_nil
  · obtain rfl := (hg k).1 hk; exact ⟨_, hB, rfl⟩
theorem OwS.keep (h : OwS w e v l) (hb : ∀ g cur, (∀ k, Hs v k ↔ g = k) → Blk w g e cur → Blk w' g e cur) : OwS w' e v l := by
  have hc := h.cases
  refine ⟨h.1, ?_⟩
  rcases h.2 with h1 | ⟨g, cap, cur, rfl, hl, hB, hr⟩
  · exact .inl h1
  · refine .inr ⟨g, cap, cur, rfl, hl, hb g cur (fun k => ?_) hB, hr⟩
    have h0 : 0 < l.length := List.length_pos_iff.2 hl
    have hc0 : 0 < cap := by have := hr.1; omega
    refine ⟨fun h => ?_, fun h => ?_⟩
    · have := hs_sl h; rw [oB_pos hc0] at this; exact Option.some.inj this
    · subst h; exact .inl (oB_pos hc0)
theorem OwS.ext (h : OwS w e v l) (x : Ext w w') : OwS w' e v l := h.keep fun g cur _ hB => hB.ext x
theorem OwS.tn {B : Nat} (h : OwS w e v l) (t : Tn B w w') : OwS w' e v l := h.keep fun g cur _ hB => hB.tn t
theorem OwS.other (h : OwS w e u l) (hg : Gr w w' v) (hq : Nq u v) : OwS w' e u l := h.keep fun g cur hk hB => by
  unfold Blk; rw [hg.block hB.lt (hq g ((hk g).2 rfl))]; exact hB
theorem OwS.ka (L : List Value) (h : OwS w e v l) (ha : ∀ k, Hs v k → Av L k) : Ka w L v l := by
  have h16 := h.1
  refine ⟨h16, ?_⟩
  rcases h.2 with ⟨rfl, rfl⟩ | ⟨g, cap, cur, rfl, hl, hB, hc, hm, hs, ht⟩
  · exact ⟨none, 0, rfl, Nat.le_refl _, SlK.nil _ _ _⟩
  · have h0 : 0 < l.length := List.length_pos_iff.2 hl
    have hfl := h16.flat
    refine ⟨_, cap, rfl, hc, l.flatten.map u8, ⟨_, 16 * cap, by rw [List.length_map, hfl], by rw [List.length_map, hfl]; omega, fun _ => ⟨g, 0, rfl, ha g (.inl (oB_pos (by omega))), fun i hi => ?_⟩⟩, List.length_map .., fun i a1 a2 => by simp only [Sc, List.getElem_map]⟩
    rw [Nat.zero_add, hB.cell]
    rw [List.length_map, hfl] at hi
    have : (cur.toList.take (l.length * 16))[i]? = (l.flatten.map u8)[i]? := by rw [ht]
    rw [List.getElem?_take, if_pos (by omega)] at this
    rw [← Array.getElem?_toList, this, List.getElem?_eq_getElem]
theorem OwS.rd (h : OwS w e v l) : Ka w [] v l := h.ka [] (fun _ _ => trivial)
theorem OwS.oc (h : OwS w e v l) : v.oneCell' = true := h.rd.oc
end
section
variable {P : Program} {o : Oper} {f : Nat → Value} {w : World} {t e b : TypeId} {v u : Value} {l m r : List (List UInt8)} {x s : Operand} {a : List UInt8}
theorem infoK (T : TyK P t e b) : ∃ i, P.info? e = some i ∧ i.zero = some (ag u8 (List.replicate 16 (0 : UInt8))) ∧ i.size = 16 ∧ i.bytes = 16 := by
  have h := T.info
  cases hi : P.info? e with
  | none => rw [hi] at h; cases h
  | some i =>
    rw [hi] at h
    simp only [Option.map_some, Option.some.injEq, Prod.mk.injEq] at h
    exact ⟨i, rfl, h.1, h.2.1, h.2.2⟩
theorem stp_appendK (L1 L2 : List Value) (ho : o.op = .call ⟨.builtin .append, #[s, x], #[t, t]⟩) (T : TyK P t e b) (hs : ev f s = v) (hx : ev f x = u) (h : OwS w e v l) {Lu : List Value} (hu : Ka w Lu u m) (hm0 : m ≠ []) (hm : appL l m = some r)
    {K : Value → World → Prop} (hk : ∀ v' w', OwS w' e v' r → Gr w w' v → Nx w v v' → Lift w w' (L1 ++ v :: L2) (L1 ++ v' :: L2) → K v' w') : Stp P o f w K := by
  obtain ⟨i, hi, i1, i2, i3⟩ := infoK T
  obtain ⟨hmost, rfl⟩ := appL_some.1 hm
  obtain ⟨hm16, p, cap, rfl, hcap, hb⟩ := hu
  have hpos : 0 < m.length := List.length_pos_iff.2 hm0
  obtain ⟨gb, off, rfl, _, hr⟩ := hb.cell (by omega)
  have hmfl := hm16.flat
  have hnews : ∀ j u, (m.flatten.map u8)[j]? = some u → w.cell? ((⟨gb, off, none⟩ : Addr).add j) = some u := fun j u hj => by rw [add_off]; exact hr j u hj
  have hnl : (m.flatten.map u8).length = m.length * i.size := by rw [i2, List.length_map, hmfl]; omega
  have h1 : ∀ u ∈ m.flatten.map u8, u.oneCell' = true := fun u hu => by obtain ⟨y, _, rfl⟩ := List.mem_map.1 hu; rfl
  have b1 : (l.length + m.length) * i.bytes ≤ 140737488355328 := by rw [i3]; simp only [most] at hmost; omega
  have b3 : l.length + m.length ≤ maxLen := by simp only [maxLen]; simp only [most] at hmost; omega
  have h63 : ((l.length + m.length : Nat) : Int) ≤ 9223372036854775807 := by simp only [most] at hmost; omega
  have hr16 : L16 (l ++ m) := h.1.app hm16
  have hne : l ++ m ≠ [] := fun e => hm0 (List.append_eq_nil_iff.1 e).2
  have hlfl := h.1.flat
  have key : ∀ v' w', (Builtin.append_ #[t, t] o.type #[v, .slice (some ⟨gb, off, none⟩) m.length cap]).run P w = .ok v' w' → OwS w' e v' (l ++ m) → Gr w w' v → Nx w v v' → Stp P o f w K := fun v' w' hrun a1 a2 a3 =>
    stp_of_run (v := v') (w' := w') (by rw [exec_builtin _ ho]; simp [builtin, hs, hx, hrun]) (hk v' w' a1 a2 a3 (Lift.own L1 L2 a2 a3))
  have made : ∀ (old : Nat), OwS (w.drew.alloc (.cells ((l.flatten.map u8).toArray ++ (m.flatten.map u8).toArray ++ Builtin.zeroCells (ag u8 (List.replicate 16 (0 : UInt8))).cells (grownCap w (l.length + m.length) old e - (l.length + m.length))) e)) e
      (.slice (some ⟨w.heap.size, 0, none⟩) (l.length + m.length) (grownCap w (l.length + m.length) old e)) (l ++ m) := fun old => by
    have hge := grownCap_ge w (l.length + m.length) old e
    refine ⟨hr16, .inr ⟨w.heap.size, grownCap w (l.length + m.length) old e, _, by simp, hne, heap_alloc_new w.drew _, by simpa using hge, grownCap_le_maxLen w _ old e b3, ?_, ?_⟩⟩
    · have hz : (ag u8 (List.replicate 16 (0 : UInt8))).cells.size = 16 := by simp [ag, Value.cells, ac]
      simp only [Array.size_append, List.size_toArray, size_zeroCells, hz, List.length_map, hlfl, hmfl]
      omega
    · simp only [Array.toList_append, List.append_assoc]
      rw [← List.append_assoc, ← List.map_append, ← List.flatten_append]
      refine List.take_left' ?_
      rw [List.length_map, hr16.flat]; omega
  have hgn : ∀ (cs : Array Value) (v : Value), Gr w (w.drew.alloc (.cells cs e)) v := fun cs v => ⟨none, ⟨rfl, rfl, rfl, by simp, fun k hk _ => alloc_old w.drew _ k hk⟩, fun _ e => by cases e⟩
  rcases h.2 with ⟨rfl, rfl⟩ | ⟨g, cap', cur, rfl, hl, hB, hc, hcm, hcs, ht⟩
  · have hrun := run_append_nil (P := P) w t o.type e i _ T.sl hi i1 ⟨gb, off, none⟩ m.length cap (m.flatten.map u8) hnl hnews hpos (by simpa using h63) (by simp only [List.length_nil, Nat.zero_add] at b1; omega)
    have hmk := made 0
    simp only [List.length_nil, Nat.zero_add, List.nil_append, List.flatten_nil, List.map_nil, Array.empty_append] at hmk key hgn
    exact key _ _ hrun hmk (hgn _ _) ((Nw.mk w _ _).nx _)
  · have h0 : 0 < cap' := by have := List.length_pos_iff.2 hl; omega
    by_cases hroom : l.length + m.length ≤ cap'
    · have hfit : l.length * i.size + (m.flatten.map u8).length ≤ cur.size := by rw [hnl, hcs, i2]; omega
      have hrun := run_append_room (P := P) w t o.type e i T.sl hi g l.length cap' cur hB ⟨gb, off, none⟩ m.length cap (m.flatten.map u8) hnl hnews h1 hroom hfit
      refine key _ _ hrun ⟨hr16, .inr ⟨g, cap', _, by simp, hne, setRow_heap w g cur _ e _ hB, by simpa using hroom, hcm, ?_, ?_⟩⟩ (Gr.of ⟨rfl, rfl, rfl, by simp, fun k _ hk => setRow_other w g k _ (fun e => hk (by rw [oB_pos h0, e]))⟩)
        (fun k hk => .inl (.inl (by have := hs_sl hk; rw [oB_pos h0] at *; exact this)))
      · have := Array.length_toList (xs := cur)
        simp only [List.size_toArray, List.length_append, List.length_take, List.length_drop, hnl, i2]
        omega
      · rw [i2, ht, ← List.map_append, ← List.flatten_append]
        refine List.take_left' ?_
        rw [List.length_map, hr16.flat]; omega
    · have holds : ∀ j u, (l.flatten.map u8)[j]? = some u → w.cell? ((⟨g, 0, none⟩ : Addr).add j) = some u := fun j u hj => by
        rw [add_off, Nat.zero_add, hB.cell, ← Array.getElem?_toList]
        rw [← ht, List.getElem?_take] at hj
        split at hj
        · exact hj
        · cases hj
      have hrun := run_append_grow (P := P) w t o.type e i _ T.sl hi i1 ⟨g, 0, none⟩ l.length cap' (l.flatten.map u8) (by rw [i2, List.length_map, hlfl]; omega) holds ⟨gb, off, none⟩ m.length cap (m.flatten.map u8) hnl hnews (by omega) h63 (growslice_fits (by omega) b1)
      exact key _ _ hrun (made cap') (hgn _ _) ((Nw.mk w _ _).nx _)
theorem fold_set (us : List Value) : ∀ (k : Nat) (pre post : List Value), pre.length = k → post.length = us.length → (us.zipIdx k).foldl (fun cs (p : Value × Nat) => Array.setIfInBounds cs (0 + p.2) p.1) (pre ++ post).toArray = (pre ++ us).toArray := by
  induction us with
  | nil => intro k pre post _ h; rw [List.length_nil] at h; rw [List.eq_nil_of_length_eq_zero h]; rfl
  | cons u us ih =>
    intro k pre post hk h
    cases post with
    | nil => cases h
    | cons p post =>
      simp only [List.zipIdx_cons, List.foldl_cons]
      have e1 : (pre ++ p :: post).toArray.setIfInBounds (0 + k) u = ((pre ++ [u]) ++ post).toArray := by
        apply Array.ext'
        simp [hk.symm, List.set_append]
      rw [e1, ih (k + 1) (pre ++ [u]) post (by simp [hk]) (by simpa using h)]
      simp
theorem stp_litK (L : List Value) (ho : o.op = .buildSlice t 1 #[(0, x)]) (T : TyK P t e b) (hx : ev f x = ag u8 a) (ha : a.length = 16)
    {K : Value → World → Prop} (hk : ∀ v w', OwS w' e v [a] → Nw w v → w.grownBy w' none → Lift w w' L (v :: L) → K v w') : Stp P o f w K := by
  obtain ⟨i, hi, i1, i2, i3⟩ := infoK T
  have hv : Nw w (.slice (some ⟨w.heap.size, 0, none⟩) 1 1) := Nw.mk _ _ _
  have h0 := World.grownBy_alloc w (.cells (ac u8 a) e) none
  have hcs : (ag u8 a).cells = ac u8 a := rfl
  have hsz : (ac u8 a).size = 16 := by rw [ac_size, ha]
  have hfill : Instr.fill (fun i => some (i * 16, 16)) ((Array.range (1 * 16)).map (((ag u8 (List.replicate 16 (0 : UInt8))).cells)[· % ((ag u8 (List.replicate 16 (0 : UInt8))).cells).size]!)) [(0, ag u8 a)] = some (ac u8 a) := by
    simp only [Instr.fill, hcs, hsz]
    rw [if_neg (by simp)]
    have := fold_set (a.map u8) 0 [] ((Array.range (1 * 16)).map (((ag u8 (List.replicate 16 (0 : UInt8))).cells)[· % ((ag u8 (List.replicate 16 (0 : UInt8))).cells).size]!)).toList rfl (by simp [ha])
    simp only [List.nil_append, Array.toArray_toList] at this
    congr 1
    rw [← Array.foldl_toList, Array.toList_zipIdx, ac]
    simpa [Nat.zero_mul] using this
  have hrun : (Instr.buildSlice t 1 #[(0, ag u8 a)]).run P w = .ok (.slice (some ⟨w.heap.size, 0, none⟩) 1 1) (w.alloc (.cells (ac u8 a) e)) := by
    unfold Instr.buildSlice
    have hz : ∀ w, (zeroValue e).run P w = .ok (ag u8 (List.replicate 16 (0 : UInt8))) w := fun w => by simp [zeroValue, typeInfo, hi, i1]
    simp [run_underlying T.sl, T.arr.size, hz]
    simp at hfill
    rw [hfill]
    simp [newRow]
  refine stp_of_run (v := .slice (some ⟨w.heap.size, 0, none⟩) 1 1) (w' := w.alloc (.cells (ac u8 a) e)) (by simp [execOp, ho, hx, hrun]) (hk _ _ ?_ hv h0 (Lift.new L h0 hv))
  refine ⟨fun y hy => by rw [List.mem_singleton.1 hy]; exact ha, .inr ⟨w.heap.size, 1, ac u8 a, rfl, by simp, heap_alloc_new w _, Nat.le_refl _, by decide, by rw [hsz], ?_⟩⟩
  simp [ac, List.take_of_length_le, ha]
def sptr (v : Value) : Value := match v with | .slice a _ _ => .pointer a | v => v
theorem q_arrAt {T n : Nat} {d : List UInt8} {L : List Value} (ho : o.op = .sliceToArrayPointer T x) (A : TyA P T b n) (hx : ev f x = v) (h : By w L v d) (hn : n ≤ d.length) : Qa P o f (sptr v) := by
  intro w'
  obtain ⟨us, ⟨p, cap, rfl, _⟩, hl, _⟩ := h
  have : ¬ us.length < n := by omega
  simp [execOp, ho, hx, Instr.arrayAt, run_underlying A.und, this, sptr]
theorem q_loadSp {T n : Nat} {d : List UInt8} {L : List Value} (ho : o.op = .load T x) (A : TyA P T b n) (hx : ev f x = sptr v) (h : By w L v d) (hn : d.length = n) (h0 : 0 < n) : Qt P o f w (ag u8 d) := by
  obtain ⟨p, k, cap, rfl⟩ := (show ∃ p k cap, v = .slice p k cap from by obtain ⟨us, ⟨p, cap, rfl, _⟩, _⟩ := h; exact ⟨_, _, _, rfl⟩)
  have hk := h.len
  obtain ⟨g, off, rfl, _, hr⟩ := h.cell (by omega)
  intro w' hE
  have hcs := run_loadCells_list (P := P) w' ⟨g, off, none⟩ (d.map u8) (fun j u hj => by
    have h4 := hr _ _ hj
    rw [add_off, World.cell?_of_block (w := w) (hE.blk g (World.block_lt_of_cell? w _ h4))]
    exact h4)
  rw [List.length_map, hn] at hcs
  simp [execOp, ho, hx, sptr, Instr.loadAt, Instr.sureAddr, loadVar, A.agg, A.size, hcs, ag, ac]
end
end Gk

/- Ciphers of this seat's program: the struct behind its pointer. No condition. -/
set_option linter.unusedVariables false
set_option linter.unusedSimpArgs false
namespace Gk
open Go Go.Proofs Go.RowKit
structure Cip where
  f : Bool
  keys : List (List UInt8)
  box : List UInt8
  back : List UInt8
def cipc (fv ks : Value) (box back : List UInt8) : Array Value := (fv :: ks :: (box ++ back).map u8).toArray
theorem K63 : TyK Try.prog 63 77 5 := ⟨Try.underlying63, A77, by kernel_rfl⟩
def Ci (w : World) (L : List Value) (v : Value) (c : Option Cip) : Prop :=
  (c = none ∧ v = .pointer none) ∨ ∃ x g fv ks, c = some x ∧ v = bp g ∧ Av L g ∧ Blk w g 66 (cipc fv ks x.box x.back) ∧ Fd w L fv x.f ∧ Ka w L ks x.keys ∧ x.box.length = 256 ∧ x.back.length = 256
theorem Ci.lift {w w' : World} {L L' : List Value} {v : Value} {c : Option Cip} (h : Ci w L v c) (g : Lift w w' L L') : Ci w' L' v c := by
  rcases h with h | ⟨x, k, fv, ks, h1, h2, ha, hB, hF, hK, h3⟩
  · exact .inl h
  · exact .inr ⟨x, k, fv, ks, h1, h2, g.av k hB.lt ha, g.blk k _ hB rfl ha, hF.lift g, hK.lift g, h3⟩
theorem Ci.nil (w : World) (L : List Value) : Ci w L (.pointer none) none := .inl ⟨rfl, rfl⟩
theorem Ci.mk {w : World} {L : List Value} {g : Nat} {fv ks : Value} {b : Bool} {k : List (List UInt8)} {x y : List UInt8} (hB : Blk w g 66 (cipc fv ks x y)) (ha : Av L g) (hF : Fd w L fv b) (hK : Ka w L ks k) (hx : x.length = 256) (hy : y.length = 256) : Ci w L (bp g) (some ⟨b, k, x, y⟩) :=
  .inr ⟨⟨b, k, x, y⟩, g, fv, ks, rfl, rfl, ha, hB, hF, hK, hx, hy⟩
theorem Ci.some {w : World} {L : List Value} {v : Value} {x : Cip} {c : Option Cip} (h : Ci w L v c) (hc : c = some x) : ∃ g fv ks, v = bp g ∧ Blk w g 66 (cipc fv ks x.box x.back) ∧ Fd w L fv x.f ∧ Ka w L ks x.keys ∧ Pa w L (bpo g 2) x.box ∧ Pa w L (bpo g 258) x.back := by
  rcases h with ⟨h1, _⟩ | ⟨x', g, fv, ks, h1, h2, ha, hB, hF, hK, hb, hb'⟩
  · rw [h1] at hc; cases hc
  · rw [h1] at hc; obtain rfl := Option.some.inj hc
    refine ⟨g, fv, ks, h2, hB, hF, hK, ⟨_, rfl, x'.box.map u8, ⟨_, _, by rw [List.length_map], by rw [List.length_map]; exact Nat.le_refl _, fun _ => ⟨g, 2, rfl, ha, fun i hi => ?_⟩⟩, List.length_map .., fun i a1 a2 => by simp only [Sc, List.getElem_map]⟩, ⟨_, rfl, x'.back.map u8, ⟨_, _, by rw [List.length_map], by rw [List.length_map]; exact Nat.le_refl _, fun _ => ⟨g, 258, rfl, ha, fun i hi => ?_⟩⟩, List.length_map .., fun i a1 a2 => by simp only [Sc, List.getElem_map]⟩⟩
    · rw [hB.cell, Nat.add_comm]
      simp only [List.length_map] at hi
      simp [cipc, hi, List.getElem?_append]
    · rw [hB.cell, Nat.add_comm, show i + 258 = i + 256 + 2 by omega]
      simp only [List.length_map] at hi
      simp [cipc, hi, hb, List.getElem?_append]
theorem blk_box {w : World} {g : Nat} {fv ks : Value} {x y : List UInt8} (hB : Blk w g 66 (cipc fv ks x y)) : Pa w [] (bpo g 2) x := by
  refine ⟨_, rfl, x.map u8, ⟨_, _, by rw [List.length_map], by rw [List.length_map]; exact Nat.le_refl _, fun _ => ⟨g, 2, rfl, trivial, fun i hi => ?_⟩⟩, List.length_map .., fun i a1 a2 => by simp only [Sc, List.getElem_map]⟩
  rw [hB.cell, Nat.add_comm]
  simp only [List.length_map] at hi
  simp [cipc, hi, List.getElem?_append]
set_option maxRecDepth 100000 in
theorem cip_zero : ∀ w, (zeroValue 66).run Try.prog w = .ok (.agg (cipc (.pointer none) (.slice none 0 0) (List.replicate 256 0) (List.replicate 256 0))) w := fun w => by rw [Try.zeroValue66]; rfl
theorem fieldAtC0 (a : Addr) (w : World) : (Instr.fieldAt 66 (.pointer (some a)) 0).run Try.prog w = .ok (.pointer (some (a.add 0))) w := by
  simp [Instr.fieldAt, Instr.sureAddr, fieldPlace]
theorem fieldAtC1 (a : Addr) (w : World) : (Instr.fieldAt 66 (.pointer (some a)) 1).run Try.prog w = .ok (.pointer (some (a.add 1))) w := by
  simp [Instr.fieldAt, Instr.sureAddr, fieldPlace]
theorem fieldAtC2 (a : Addr) (w : World) : (Instr.fieldAt 66 (.pointer (some a)) 2).run Try.prog w = .ok (.pointer (some (a.add 2))) w := by
  simp [Instr.fieldAt, Instr.sureAddr, fieldPlace]
theorem fieldAtC3 (a : Addr) (w : World) : (Instr.fieldAt 66 (.pointer (some a)) 3).run Try.prog w = .ok (.pointer (some (a.add 258))) w := by
  simp [Instr.fieldAt, Instr.sureAddr, fieldPlace]
section
variable {o : Oper} {f : Nat → Value} {w : World} {x y : Operand} {v : Value} {g m j : Nat} {L : List Value} {c : Option Cip} {fv ks ks' : Value} {b k k' : List UInt8} {t t' e : TypeId} {i : Int} {a z : UInt8}
theorem q_fldC {d : Nat} (ho : o.op = .fieldAddr 66 x j) (hf : ∀ (a : Addr) (w : World), (Instr.fieldAt 66 (.pointer (some a)) j).run Try.prog w = .ok (.pointer (some (a.add d))) w) (hx : ev f x = bp g) : Qa Try.prog o f (bpo g d) := by
  intro w'
  simp [execOp, ho, hx, hf, add_off]
theorem q_buildC (ho : o.op = .build 66 #[(0, x)]) (hx : ev f x = fv) (hv : fv.cells = #[fv]) : Qa Try.prog o f (.agg (cipc fv (.slice none 0 0) (List.replicate 256 0) (List.replicate 256 0))) := by
  intro w'
  have hb : (Instr.build 66 #[(0, fv)]).run Try.prog w' = .ok (.agg (cipc fv (.slice none 0 0) (List.replicate 256 0) (List.replicate 256 0))) w' := by
    unfold Instr.build
    simp only [Sem.run_bind, cip_zero, Result.andThen_ok, run_underlying Try.underlying66]
    generalize List.replicate 256 (0 : UInt8) = bx
    have hfill : Instr.fill (fun i => ([((0 : Nat), (1 : Nat)), (1, 1), (2, 256), (258, 256)] : List (Nat × Nat))[i]?) (cipc (.pointer none) (.slice none 0 0) bx bx) [(0, fv)] = some (cipc fv (.slice none 0 0) bx bx) := by
      simp [Instr.fill, hv, cipc]
    simp [Try.sizeOf29, Try.sizeOf63, Try.sizeOf64, Value.cells, hfill]
  generalize List.replicate 256 (0 : UInt8) = bx at hb ⊢
  simp [execOp, ho, hx, hb]
theorem q_eqC (ho : o.op = .binOp .eql t x y t') (ht : Try.prog.underlying t = some (.pointer e)) (hx : ev f x = v) (hy : ev f y = .pointer none) (h : Ci w L v c) : Qa Try.prog o f (.bool c.isNone) := by
  rcases h with ⟨rfl, rfl⟩ | ⟨l, g, u, _, rfl, rfl, _⟩
  · exact q_eqP ho ht hx hy
  · exact q_eqP ho ht hx hy
theorem stp_storeCb (L1 L2 : List Value) (ho : o.op = .store 5 x y) (hx : ev f x = bpo g (2 + i.toNat)) (hy : ev f y = u8 z) (h : Blk w g 66 (cipc fv ks b k)) (hi : idx b i = some a)
    {K : Value → World → Prop} (hk : ∀ w', Blk w' g 66 (cipc fv ks (b.set i.toNat z) k) → Gr w w' (bp g) → Lift w w' (L1 ++ bp g :: L2) (L1 ++ bp g :: L2) → K undef w') : Stp Try.prog o f w K := by
  obtain ⟨h0, h1, h2⟩ := idx_some.1 hi
  have hlt : i.toNat < b.length := by omega
  have hset : (cipc fv ks b k).setIfInBounds (2 + i.toNat) (u8 z) = cipc fv ks (b.set i.toNat z) k := by
    apply Array.ext'
    rw [Nat.add_comm]
    simp [cipc, List.set_append, hlt]
  exact stp_storeB ho Try.sizeOf5 hx hy h (by simp [cipc]; omega) rfl fun w' hB hg => hk w' (by rw [hset] at hB; exact hB) (Gr.of hg) (Lift.own L1 L2 (Gr.of hg) (Nx.refl _ _))
theorem stp_storeCk (L1 L2 : List Value) (ho : o.op = .store 5 x y) (hb : b.length = 256) (hx : ev f x = bpo g (258 + i.toNat)) (hy : ev f y = u8 z) (h : Blk w g 66 (cipc fv ks b k)) (hi : idx k i = some a)
    {K : Value → World → Prop} (hk : ∀ w', Blk w' g 66 (cipc fv ks b (k.set i.toNat z)) → Gr w w' (bp g) → Lift w w' (L1 ++ bp g :: L2) (L1 ++ bp g :: L2) → K undef w') : Stp Try.prog o f w K := by
  obtain ⟨h0, h1, h2⟩ := idx_some.1 hi
  have hlt : i.toNat < k.length := by omega
  have hset : (cipc fv ks b k).setIfInBounds (258 + i.toNat) (u8 z) = cipc fv ks b (k.set i.toNat z) := by
    apply Array.ext'
    rw [Nat.add_comm, show i.toNat + 258 = i.toNat + 256 + 2 by omega]
    simp [cipc, List.set_append, hlt, hb]
  exact stp_storeB ho Try.sizeOf5 hx hy h (by simp [cipc, hb]; omega) rfl fun w' hB hg => hk w' (by rw [hset] at hB; exact hB) (Gr.of hg) (Lift.own L1 L2 (Gr.of hg) (Nx.refl _ _))
theorem stp_storeCs (L1 L2 : List Value) (ho : o.op = .store 63 x y) (hx : ev f x = bpo g 1) (hy : ev f y = ks') (h : Blk w g 66 (cipc fv ks b k)) (hc : ks'.oneCell' = true)
    {K : Value → World → Prop} (hk : ∀ w', Blk w' g 66 (cipc fv ks' b k) → Gr w w' (bp g) → Lift w w' (L1 ++ bp g :: L2) (L1 ++ bp g :: L2) → K undef w') : Stp Try.prog o f w K := by
  have hset : (cipc fv ks b k).setIfInBounds 1 ks' = cipc fv ks' b k := by
    apply Array.ext'
    simp [cipc]
  exact stp_storeB ho Try.sizeOf63 hx hy h (by simp [cipc]) hc fun w' hB hg => hk w' (by rw [hset] at hB; exact hB) (Gr.of hg) (Lift.own L1 L2 (Gr.of hg) (Nx.refl _ _))
end
end Gk

/- Printed by gen.py: for each Go function a pure function, and that the Go code comes to it. No condition beside the equation that says what the pure function gives. -/
set_option linter.unusedVariables false
set_option linter.unusedSimpArgs false
namespace Gk
open Go Go.Proofs
noncomputable def cipher_boxes (a0c : Cip) : Option Cip :=
((iterC (fun s1 : List UInt8 × List UInt8 × Int =>
(if s1.2.2 < 256 then
((field_Inv a0c.f (UInt8.ofInt s1.2.2)).bind fun r4 =>
((iterC (fun s6 : UInt8 × Int =>
(if s6.2 ≤ 4 then
((word_Turn_byte r4.1 s6.2).bind fun r9 => some (.inl ((s6.1 ^^^ r9), (wI (s6.2 + 1)))))
else some (.inr s6.1))) ((r4.1 ^^^ (99 : UInt8)), 1)).bind fun x6 =>
((lenA 256 s1.1).bind fun c15 =>
((idx s1.1 s1.2.2).bind fun c16 =>
((lenA 256 s1.2.1).bind fun c19 =>
((idx s1.2.1 ((x6.toNat : Int))).bind fun c20 => some (.inl ((s1.1.set (s1.2.2 : Int).toNat x6), (s1.2.1.set ((x6.toNat : Int) : Int).toNat ((UInt8.ofInt s1.2.2))), (wI (s1.2.2 + 1))))))))))
else some (.inr (s1.1, s1.2.1)))) (a0c.box, a0c.back, 0)).bind fun x1 => some (⟨a0c.f, a0c.keys, x1.1, x1.2⟩ : Cip))
set_option maxRecDepth 100000 in
set_option maxHeartbeats 8000000 in
theorem cipher_boxes_calls (a0c : Cip) (gio0 : Nat) (fv0 : Value) (ks0 : Value) (r : Cip) (w0 : World) (hio0 : Blk w0 gio0 66 (cipc fv0 ks0 a0c.box a0c.back)) (hfv0 : Fd w0 [(bp gio0)] fv0 a0c.f) (H : cipher_boxes a0c = some r) :
    Calls Try.prog 44 [(bp gio0)].toArray w0 (fun e w' => e = .returned (.tuple #[]) ∧ ExG [(bp gio0)] w0 w' ∧ Blk w' gio0 66 (cipc fv0 ks0 r.box r.back)) := by
  have hE : ExG [(bp gio0)] w0 w0 := ExG.refl _ w0; unfold cipher_boxes at H; refine calls_W (n := 45) Try.func44 rfl rfl rfl ?_; refine W_seq ?_; refine W_reg (by kernel_rfl) ?_; refine wla rfl rfl (q_move (v := (i64 0)) rfl rfl) ?_; refine wl_nil ?_; refine W_th ?_; obtain ⟨x1, G1, H⟩ := bsi H; refine W_mid (fun f w => f 0 = (bp gio0) ∧ f 45 = undef ∧ ExG [(bp gio0)] w0 w ∧ Blk w gio0 66 (cipc fv0 ks0 x1.1 x1.2) ∧ NS [(bp gio0)] w0 (bp gio0)) ?_ ?_
  · refine W_block ?_; refine W_loop (fun s1 f w => f 0 = (bp gio0) ∧ f 7 = (i64 s1.2.2) ∧ f 45 = undef ∧ ExG [(bp gio0)] w0 w ∧ Blk w gio0 66 (cipc fv0 ks0 s1.1 s1.2.1) ∧ NS [(bp gio0)] w0 (bp gio0)) G1 ?_ ?_
    · exact ⟨rfl, rfl, rfl, hE, hio0, NS.own⟩
    rintro s1 _ _ w2 ⟨s0_2, s7_2, s45_2, hE2, o0_2, n0_2⟩ H1 hr1; refine W_seq ?_; refine W_reg (by kernel_rfl) ?_; refine wla rfl rfl (q_ltI rfl s7_2 rfl) ?_; refine wl_nil ?_; refine W_th ?_; refine W_seq ?_; refine W_cond _ rfl rfl (fun hb3 => ?_) (fun hb3 => ?_)
    · replace H1 := (if_pos (of_decide_eq_true hb3)).symm.trans H1; refine W_skip ?_; refine W_th ?_; refine W_seq ?_; refine W_block ?_; refine W_seq ?_; refine W_reg (by kernel_rfl) ?_; refine wla rfl rfl (q_move (v := (i64 s1.2.2)) rfl s7_2) ?_; refine wla rfl rfl (q_assign (v := (i64 s1.2.2)) rfl rfl) ?_; refine wl_nil ?_; refine W_th ?_; refine W_seq ?_; refine W_reg (by kernel_rfl) ?_; refine wla rfl rfl (q_move (v := (bp gio0)) rfl s0_2) ?_; refine wla rfl rfl (q_nilP rfl rfl) ?_; refine wla rfl rfl (q_fldC (g := gio0) (d := 0) rfl fieldAtC0 rfl) ?_; refine wlq rfl rfl (q_loadB (u := fv0) rfl Try.isAgg29 rfl o0_2 rfl) ?_; refine wla rfl rfl (q_move (v := (i64 s1.2.2)) rfl rfl) ?_; refine wla rfl rfl (q_cvt8I rfl rfl rfl rfl) ?_; obtain ⟨r4, hr4, H1⟩ := bsi H1; refine wls rfl rfl (stp_call (vs := [fv0, (u8 ((UInt8.ofInt s1.2.2)))]) Try.func71 rfl rfl rfl (ar2 rfl rfl) (field_Inv_calls a0c.f (UInt8.ofInt s1.2.2) fv0 r4 _ (hfv0.lift (Lift.exg0 hE2)) hr4) ?_); rintro _ w4 ⟨rfl, x4⟩; refine ⟨_, rfl, ?_⟩; replace o0_2 := o0_2.ext x4; have e5 := hE2.trans x4; refine wla rfl rfl (q_move (v := (.tuple #[(u8 r4.1), (i64 r4.2)])) rfl rfl) ?_; refine wla rfl rfl (q_extract rfl rfl rfl) ?_; refine wla rfl rfl (q_extract rfl rfl rfl) ?_; refine wla rfl rfl (q_assign (v := (u8 r4.1)) rfl rfl) ?_; refine wla rfl rfl (q_assign (v := (i64 r4.2)) rfl rfl) ?_; refine wl_nil ?_; refine W_th ?_; refine W_seq ?_; refine W_reg (by kernel_rfl) ?_; refine wla rfl rfl (q_move (v := (u8 r4.1)) rfl rfl) ?_; refine wla rfl rfl (q_xor8 rfl rfl (cst8 (99 : UInt8) rfl)) ?_; refine wla rfl rfl (q_assign (v := (u8 ((r4.1 ^^^ (99 : UInt8))))) rfl rfl) ?_; refine wl_nil ?_; refine W_th ?_; refine W_seq ?_; refine W_seq ?_; refine W_reg (by kernel_rfl) ?_; refine wla rfl rfl (q_assign (v := (i64 1)) rfl rfl) ?_; refine wl_nil ?_; refine W_th ?_; obtain ⟨x6, G6, H1⟩ := bsi H1; refine W_mid (fun f w => f 0 = (bp gio0) ∧ f 2 = (i64 s1.2.2) ∧ f 5 = (u8 x6) ∧ f 7 = (i64 s1.2.2) ∧ f 45 = undef ∧ ExG [(bp gio0)] w0 w ∧ Blk w gio0 66 (cipc fv0 ks0 s1.1 s1.2.1) ∧ NS [(bp gio0)] w0 (bp gio0)) ?_ ?_
      · refine W_block ?_; refine W_loop (fun s6 f w => f 0 = (bp gio0) ∧ f 2 = (i64 s1.2.2) ∧ f 3 = (u8 r4.1) ∧ f 5 = (u8 s6.1) ∧ f 6 = (i64 s6.2) ∧ f 7 = (i64 s1.2.2) ∧ f 45 = undef ∧ ExG [(bp gio0)] w0 w ∧ Blk w gio0 66 (cipc fv0 ks0 s1.1 s1.2.1) ∧ NS [(bp gio0)] w0 (bp gio0)) G6 ?_ ?_
        · exact ⟨s0_2, rfl, rfl, rfl, rfl, s7_2, s45_2, e5, o0_2, n0_2⟩
        rintro s6 _ _ w7 ⟨s0_7, s2_7, s3_7, s5_7, s6_7, s7_7, s45_7, hE7, o0_7, n0_7⟩ H6 hr6; refine W_seq ?_; refine W_seq ?_; refine W_reg (by kernel_rfl) ?_; refine wla rfl rfl (q_move (v := (i64 s6.2)) rfl s6_7) ?_; refine wla rfl rfl (q_leI rfl rfl rfl) ?_; refine wl_nil ?_; refine W_th ?_; refine W_cond _ rfl rfl (fun hb8 => ?_) (fun hb8 => ?_)
        · replace H6 := (if_pos (of_decide_eq_true hb8)).symm.trans H6; refine W_skip ?_; refine W_th ?_; refine W_seq ?_; refine W_block ?_; refine W_reg (by kernel_rfl) ?_; refine wla rfl rfl (q_move (v := (u8 s6.1)) rfl s5_7) ?_; refine wla rfl rfl (q_move (v := (u8 r4.1)) rfl s3_7) ?_; refine wla rfl rfl (q_move (v := (i64 s6.2)) rfl s6_7) ?_; obtain ⟨r9, hr9, H6⟩ := bsi H6; refine wls rfl rfl (stp_call (vs := [(u8 r4.1), (i64 s6.2)]) Try.func72 rfl rfl rfl (ar2 rfl rfl) (word_Turn_byte_calls r4.1 s6.2  r9 _  hr9) ?_); rintro _ w9 ⟨rfl, x9⟩; refine ⟨_, rfl, ?_⟩; replace o0_7 := o0_7.ext x9; have e10 := hE7.trans x9; refine wla rfl rfl (q_xor8 rfl rfl rfl) ?_; refine wla rfl rfl (q_assign (v := (u8 ((s6.1 ^^^ r9)))) rfl rfl) ?_; refine wl_nil ?_; refine bk_n ?_; refine W_th ?_; refine W_reg (by kernel_rfl) ?_; refine wla rfl rfl (q_move (v := (i64 s6.2)) rfl s6_7) ?_; refine wla rfl rfl (q_addI rfl rfl rfl) ?_; refine wla rfl rfl (q_assign (v := (i64 ((wI (s6.2 + 1))))) rfl rfl) ?_; refine wl_nil ?_; obtain rfl := osi H6; exact ⟨_, rfl, s0_7, s2_7, s3_7, rfl, rfl, s7_7, s45_7, e10, o0_7, n0_7⟩
        replace H6 := (if_neg (of_decide_eq_false hb8)).symm.trans H6; refine W_exit ?_; refine th_x ?_; obtain rfl := osi H6; obtain rfl := hr6 _ rfl; refine th_x ?_; refine bk_x ?_; exact ⟨s0_7, s2_7, s5_7, s7_7, s45_7, hE7, o0_7, n0_7⟩
      rintro _ w12 ⟨s0_12, s2_12, s5_12, s7_12, s45_12, hE12, o0_12, n0_12⟩; refine W_th ?_; refine W_draw [] [(0, 0), (1, 0), (2, 0), (3, 0), (4, 0), (5, 0), (6, 0), (7, 0), (8, 0), (9, 0), (11, 0), (12, 0), (10, 2), (13, 0), (14, 2)] mixed (by kernel_rfl) (by kernel_rfl) (by kernel_rfl) (by kernel_rfl) ?_; have x13 := Ext.drew w12; replace o0_12 := o0_12.ext x13; have e14 := hE12.trans x13; refine wsa rfl rfl rfl (q_move (v := (bp gio0)) rfl s0_12) ?_; refine wsa rfl rfl rfl (q_move (v := (i64 s1.2.2)) rfl s2_12) ?_; refine wsa rfl rfl rfl (q_move (v := (bp gio0)) rfl s0_12) ?_; refine wsa rfl rfl rfl (q_move (v := (u8 x6)) rfl s5_12) ?_; refine wsa rfl rfl rfl (q_move (v := (u8 x6)) rfl s5_12) ?_; refine wsa rfl rfl rfl (q_move (v := (i64 s1.2.2)) rfl s2_12) ?_; refine wsa rfl rfl rfl (q_cvt8I rfl rfl rfl rfl) ?_; refine wsa rfl rfl rfl (q_nilP rfl rfl) ?_; refine wsa rfl rfl rfl (q_fldC (g := gio0) (d := 2) rfl fieldAtC2 rfl) ?_; obtain ⟨c15, hc15, H1⟩ := bsi H1; obtain ⟨c16, hc16, H1⟩ := bsi H1; refine wsa rfl rfl rfl (q_ixA (m := 2) rfl A64 rfl rfl (lenA_eq hc15) hc16) ?_; refine wsa rfl rfl rfl (q_nilP rfl rfl) ?_; refine wsa rfl rfl rfl (q_fldC (g := gio0) (d := 258) rfl fieldAtC3 rfl) ?_; refine wsn rfl (by kernel_rfl) rfl rfl (stp_storeCb (i := s1.2.2) (z := x6) [] [] rfl rfl rfl o0_12 hc16 ?_); intro w17 o17 g17 l17; have e18 := e14.grown g17 n0_12; obtain ⟨c19, hc19, H1⟩ := bsi H1; obtain ⟨c20, hc20, H1⟩ := bsi H1; refine wsa rfl rfl rfl (q_ixA8 (m := 258) rfl A64 rfl rfl (lenA_eq hc19) hc20) ?_; refine wsn rfl (by kernel_rfl) rfl rfl (stp_storeCk (i := (x6.toNat : Int)) (z := (UInt8.ofInt s1.2.2)) [] [] rfl (List.length_set.trans (lenA_eq hc15)) rfl rfl o17 hc20 ?_); intro w21 o21 g21 l21; have e22 := e18.grown g21 n0_12; refine ws_nil ?_; refine bk_n ?_; refine W_th ?_; refine W_reg (by kernel_rfl) ?_; refine wla rfl rfl (q_addI rfl s7_12 rfl) ?_; refine wla rfl rfl (q_move (v := (i64 ((wI (s1.2.2 + 1))))) rfl rfl) ?_; refine wl_nil ?_; obtain rfl := osi H1; exact ⟨_, rfl, s0_12, rfl, s45_12, e22, o21, n0_12⟩
    replace H1 := (if_neg (of_decide_eq_false hb3)).symm.trans H1; refine W_exit ?_; refine th_x ?_; obtain rfl := osi H1; obtain rfl := hr1 _ rfl; refine th_x ?_; refine bk_x ?_; exact ⟨s0_2, s45_2, hE2, o0_2, n0_2⟩
  rintro _ w25 ⟨s0_25, s45_25, hE25, o0_25, n0_25⟩; refine rtn ?_; obtain rfl := osi H; refine rt0 rfl s45_25 ?_; exact ⟨rfl, hE25, o0_25⟩
noncomputable def cipher_Rounds (a0c : Option Cip) : Option Int :=
(if a0c.isNone = true then some 0
else
((a0c).bind fun c2 => some (wI ((c2.keys.length : Int) - 1))))
set_option maxRecDepth 100000 in
set_option maxHeartbeats 8000000 in
theorem cipher_Rounds_calls (a0c : Option Cip) (p0 : Value) (r : Int) (w0 : World) (hp0 : Ci w0 [] p0 a0c) (H : cipher_Rounds a0c = some r) :
    Calls Try.prog 22 [p0].toArray w0 (fun e w' => e = .returned (i64 r) ∧ Ext w0 w') := by
  have hE : Ext w0 w0 := Ext.refl w0; unfold cipher_Rounds at H; refine calls_W (n := 11) Try.func22 rfl rfl rfl ?_; refine W_seq ?_; refine W_reg (by kernel_rfl) ?_; refine wla rfl rfl (q_assign (v := (i64 0)) rfl rfl) ?_; refine wl_nil ?_; refine W_th ?_; refine W_seq ?_; refine W_seq ?_; refine W_reg (by kernel_rfl) ?_; refine wla rfl rfl (q_move (v := p0) rfl rfl) ?_; refine wla rfl rfl (q_eqC rfl rfl rfl rfl (hp0.lift (Lift.ext hE _))) ?_; refine wl_nil ?_; refine W_th ?_; refine W_cond _ rfl rfl (fun hb1 => ?_) (fun hb1 => ?_)
  · replace H := (if_pos hb1).symm.trans H; refine W_seq ?_; refine W_reg (by kernel_rfl) ?_; refine wla rfl rfl (q_assign (v := (i64 0)) rfl rfl) ?_; refine wl_nil ?_; refine W_th ?_; refine W_ret ?_; refine th_r ?_; obtain rfl := osi H; refine rt1 (i64 0) rfl rfl rfl rfl ?_; exact ⟨rfl, hE⟩
  replace H := (if_neg (ne_true_of_eq_false hb1)).symm.trans H; refine W_skip ?_; refine W_th ?_; refine W_seq ?_; refine W_reg (by kernel_rfl) ?_; refine wla rfl rfl (q_move (v := p0) rfl rfl) ?_; obtain ⟨c2, hc2, H⟩ := bsi H; obtain ⟨g2, fv2, ks2, hv2, hB2, hF2, hK2, hP2, hQ2⟩ := Ci.some hp0 hc2; refine wla rfl rfl (q_nilP (g := g2) (m := 0) rfl (Eq.trans rfl hv2)) ?_; refine wla rfl rfl (q_fldC (g := g2) (d := 1) rfl fieldAtC1 rfl) ?_; refine wlq rfl rfl (q_loadB (u := ks2) rfl Try.isAgg63 rfl (hB2.ext hE) rfl) ?_; refine wla rfl rfl (q_lenK rfl Try.underlying63 rfl (hK2.lift (Lift.ext hE _))) ?_; refine wla rfl rfl (q_subI rfl rfl rfl) ?_; refine wla rfl rfl (q_assign (v := (i64 ((wI ((c2.keys.length : Int) - 1))))) rfl rfl) ?_; refine wl_nil ?_; refine W_th ?_; refine W_ret ?_; obtain rfl := osi H; refine rt1 (i64 ((wI ((c2.keys.length : Int) - 1)))) rfl rfl rfl rfl ?_; exact ⟨rfl, hE⟩
noncomputable def cipher_Encrypt (a0c : Option Cip) (a1b : List UInt8) : Option (List UInt8 × Int) :=
(if a0c.isNone = true then some (([] : List UInt8), 1)
else
(if (a1b.length : Int) = 16 then
((lenA 16 a1b).bind fun c3 =>
((lenA 16 ((List.replicate 16 (0 : UInt8)))).bind fun c8 =>
((a0c).bind fun c10 =>
((idx c10.keys 0).bind fun c11 =>
((cipher_add a1b c11).bind fun r12 =>
((subL c10.keys 1 ((c10.keys.length : Int))).bind fun c14 =>
((iterC (fun s15 : List UInt8 × Int =>
(if s15.2 < (c14.length : Int) then
((idx c14 s15.2).bind fun c18 =>
((lenA 16 ((List.replicate 16 (0 : UInt8)))).bind fun c24 =>
((lenA 16 c18).bind fun c25 =>
((cipher_box s15.1 c10.box).bind fun r27 =>
((cipher_rows r27 1).bind fun r29 =>
((cipher_Rounds a0c).bind fun r31 =>
(if s15.2 < (wI (r31 - 1)) then
((cipher_columns r29 c10.f ([(2 : UInt8), (1 : UInt8), (1 : UInt8), (3 : UInt8)] : List UInt8)).bind fun r34 =>
((lenA 16 c18).bind fun c36 =>
((cipher_add r34 c18).bind fun r37 => some (.inl (r37, (wI (s15.2 + 1)))))))
else
((lenA 16 c18).bind fun c39 =>
((cipher_add r29 c18).bind fun r40 => some (.inl (r40, (wI (s15.2 + 1)))))))))))))
else some (.inr s15.1))) (r12, 0)).bind fun x15 =>
((lenA 16 x15).bind fun c44 =>
((slices_Clone_sbytebyte x15).bind fun r45 => some (r45, 0))))))))))
else some (([] : List UInt8), 3)))
set_option maxRecDepth 100000 in
set_option maxHeartbeats 8000000 in
theorem cipher_Encrypt_calls (a0c : Option Cip) (a1b : List UInt8) (p0 : Value) (p1 : Value) (r : List UInt8 × Int) (w0 : World) (hp0 : Ci w0 [] p0 a0c) (hp1 : By w0 [] p1 a1b) (H : cipher_Encrypt a0c a1b = some r) :
    Calls Try.prog 19 [p0, p1].toArray w0 (fun e w' => ∃ u0 : Value, e = .returned (.tuple #[u0, (i64 r.2)]) ∧ Ext w0 w' ∧ Nw w0 u0 ∧ OwK (Sc u8) w' [] 5 u0 r.1) := by
  have hE : Ext w0 w0 := Ext.refl w0; unfold cipher_Encrypt at H; refine calls_W (n := 58) Try.func19 rfl rfl rfl ?_; refine W_seq ?_; refine W_reg (by kernel_rfl) ?_; refine wla rfl rfl (q_assign (v := (.slice none 0 0)) rfl rfl) ?_; refine wla rfl rfl (q_assign (v := (i64 0)) rfl rfl) ?_; refine wl_nil ?_; refine W_th ?_; refine W_seq ?_; refine W_block ?_; refine W_seq ?_; refine W_reg (by kernel_rfl) ?_; refine wla rfl rfl (q_move (v := p0) rfl rfl) ?_; refine wla rfl rfl (q_eqC rfl rfl rfl rfl (hp0.lift (Lift.ext hE _))) ?_; refine wla rfl rfl (q_assign (v := (.bool a0c.isNone)) rfl rfl) ?_; refine wl_nil ?_; refine W_th ?_; refine W_cond _ rfl rfl (fun hb1 => ?_) (fun hb1 => ?_)
  · replace H := (if_pos hb1).symm.trans H; refine W_seq ?_; refine W_reg (by kernel_rfl) ?_; refine wla rfl rfl (q_assign (v := (.slice none 0 0)) rfl rfl) ?_; refine wla rfl rfl (q_assign (v := (i64 1)) rfl rfl) ?_; refine wl_nil ?_; refine W_th ?_; refine W_ret ?_; refine bk_r ?_; refine th_r ?_; obtain rfl := osi H; refine rt2 (.slice none 0 0) (i64 1) rfl rfl rfl rfl rfl rfl ?_; exact ⟨(.slice none 0 0), rfl, hE, Nw.nil _, (OwK.nil _ _ _ _)⟩
  replace H := (if_neg (ne_true_of_eq_false hb1)).symm.trans H; refine W_seq ?_; refine W_reg (by kernel_rfl) ?_; refine wla rfl rfl (q_move (v := p1) rfl rfl) ?_; refine wla rfl rfl (q_len rfl T22.sl rfl (hp1.lift (Lift.ext hE _))) ?_; refine wla rfl rfl (q_neI rfl rfl rfl) ?_; refine wla rfl rfl (q_assign (v := (.bool ((!decide ((a1b.length : Int) = 16))))) rfl rfl) ?_; refine wl_nil ?_; refine W_th ?_; refine W_cond _ rfl rfl (fun hb2 => ?_) (fun hb2 => ?_)
  · replace H := (if_neg (ndec_t hb2)).symm.trans H; refine W_seq ?_; refine W_reg (by kernel_rfl) ?_; refine wla rfl rfl (q_assign (v := (.slice none 0 0)) rfl rfl) ?_; refine wla rfl rfl (q_assign (v := (i64 3)) rfl rfl) ?_; refine wl_nil ?_; refine W_th ?_; refine W_ret ?_; refine bk_r ?_; refine th_r ?_; obtain rfl := osi H; refine rt2 (.slice none 0 0) (i64 3) rfl rfl rfl rfl rfl rfl ?_; exact ⟨(.slice none 0 0), rfl, hE, Nw.nil _, (OwK.nil _ _ _ _)⟩
  replace H := (if_pos (ndec_f hb2)).symm.trans H; refine W_skip ?_; refine bk_n ?_; refine W_th ?_; refine W_seq ?_; refine W_reg (by kernel_rfl) ?_; refine wla rfl rfl (q_move (v := p1) rfl rfl) ?_; obtain ⟨c3, hc3, H⟩ := bsi H; refine wla rfl rfl (q_arrAt rfl A77 rfl (hp1.lift (Lift.ext hE _)) (Nat.le_of_eq (lenA_eq hc3).symm)) ?_; refine wlq rfl rfl (q_loadSp rfl A77 rfl (hp1.lift (Lift.ext hE _)) (lenA_eq hc3) (by decide)) ?_; refine wls rfl rfl (stp_allocL (z := (ag u8 ((List.replicate 16 (0 : UInt8))))) (cs := (ac u8 ((List.replicate 16 (0 : UInt8))))) [] rfl Z77 rfl ?_); intro g4 w4 o4 n4 g4r l4; have x4 := grown_ext g4r; have n6 := Nw.ext hE n4; have e5 := hE.trans x4; obtain ⟨c8, hc8, H⟩ := bsi H; refine wln rfl rfl (stp_storeA [] [] rfl A77 rfl rfl (lenA_eq hc8) (lenA_eq hc3) o4 one_u8 ?_); intro w7 o7 g7 l7; have e9 := e5.grown g7 n6; refine wl_nil ?_; refine W_th ?_; refine W_seq ?_; refine W_reg (by kernel_rfl) ?_; refine wla rfl rfl (q_move (v := p0) rfl rfl) ?_; obtain ⟨c10, hc10, H⟩ := bsi H; obtain ⟨g10, fv10, ks10, hv10, hB10, hF10, hK10, hP10, hQ10⟩ := Ci.some hp0 hc10; refine wla rfl rfl (q_nilP (g := g10) (m := 0) rfl (Eq.trans rfl hv10)) ?_; refine wla rfl rfl (q_fldC (g := g10) (d := 1) rfl fieldAtC1 rfl) ?_; refine wlq rfl rfl (q_loadB (u := ks10) rfl Try.isAgg63 rfl (hB10.ext e9) rfl) ?_; obtain ⟨c11, hc11, H⟩ := bsi H; refine wla rfl rfl (q_adrK rfl K63 rfl rfl (hK10.lift (Lift.ext e9 _)) hc11) ?_; refine wlq rfl rfl (q_loadK rfl K63 rfl (hK10.lift (Lift.ext e9 _)) hc11) ?_; obtain ⟨r12, hr12, H⟩ := bsi H; refine wls rfl rfl (stp_call (vs := [(bp g4), (ag u8 c11)]) Try.func53 rfl rfl rfl (ar2 rfl rfl) (cipher_add_calls a1b c11 g4 r12 _ o7 hr12) ?_); rintro _ w12 ⟨rfl, x12, hb12_0⟩; refine ⟨_, rfl, ?_⟩; have lx12 := Lift.ownX [] [] x12; have e13 := e9.grownX x12 n6; refine wl_nil ?_; refine W_th ?_; refine W_seq ?_; refine W_seq ?_; refine W_reg (by kernel_rfl) ?_; refine wla rfl rfl (q_move (v := p0) rfl rfl) ?_; refine wla rfl rfl (q_nilP (g := g10) (m := 0) rfl (Eq.trans rfl hv10)) ?_; refine wla rfl rfl (q_fldC (g := g10) (d := 1) rfl fieldAtC1 rfl) ?_; refine wlq rfl rfl (q_loadB (u := ks10) rfl Try.isAgg63 rfl (hB10.ext e13) rfl) ?_; obtain ⟨c14, hc14, H⟩ := bsi H; refine wla rfl rfl (q_sliceK (a := 1) (c := (c10.keys.length : Int)) rfl K63 rfl (hK10.lift (Lift.ext e13 _)) rfl rfl hc14) ?_; refine wla rfl rfl (q_lenK rfl Try.underlying63 rfl (Ka.cut (hK10.lift (Lift.ext e13 _)) hc14)) ?_; refine wla rfl rfl (q_move (v := (i64 0)) rfl rfl) ?_; refine wl_nil ?_; refine W_th ?_; obtain ⟨x15, G15, H⟩ := bsi H; refine W_mid (fun f w => f 6 = (bp g4) ∧ f 58 = undef ∧ Ext w0 w ∧ Blk w g4 77 (ac u8 x15) ∧ Nw w0 (bp g4)) ?_ ?_
  · refine W_block ?_; refine W_loop (fun s15 f w => f 0 = p0 ∧ f 6 = (bp g4) ∧ f 30 = (subK ks10 (1 : Int).toNat ((c10.keys.length : Int) : Int).toNat) ∧ f 31 = (i64 ((c14.length : Int))) ∧ f 32 = (i64 s15.2) ∧ f 58 = undef ∧ Ext w0 w ∧ Blk w g4 77 (ac u8 s15.1) ∧ Nw w0 (bp g4)) G15 ?_ ?_
    · exact ⟨rfl, rfl, rfl, rfl, rfl, rfl, e13, hb12_0, n6⟩
    rintro s15 _ _ w16 ⟨s0_16, s6_16, s30_16, s31_16, s32_16, s58_16, hE16, o0_16, n0_16⟩ H15 hr15; refine W_seq ?_; refine W_reg (by kernel_rfl) ?_; refine wla rfl rfl (q_ltI rfl s32_16 s31_16) ?_; refine wl_nil ?_; refine W_th ?_; refine W_seq ?_; refine W_cond _ rfl rfl (fun hb17 => ?_) (fun hb17 => ?_)
    · replace H15 := (if_pos (of_decide_eq_true hb17)).symm.trans H15; refine W_skip ?_; refine W_th ?_; refine W_seq ?_; refine W_block ?_; refine W_seq ?_; refine W_reg (by kernel_rfl) ?_; refine wla rfl rfl (q_move (v := (i64 s15.2)) rfl s32_16) ?_; obtain ⟨c18, hc18, H15⟩ := bsi H15; refine wla rfl rfl (q_adrK rfl K63 (by exact s30_16) (by exact s32_16) (Ka.cut (hK10.lift (Lift.ext hE16 _)) hc14) hc18) ?_; refine wlq rfl rfl (q_loadK rfl K63 rfl (Ka.cut (hK10.lift (Lift.ext hE16 _)) hc14) hc18) ?_; refine wls rfl rfl (stp_allocL (z := (ag u8 ((List.replicate 16 (0 : UInt8))))) (cs := (ac u8 ((List.replicate 16 (0 : UInt8))))) [(bp g4)] rfl Z77 rfl ?_); intro g19 w19 o19 n19 g19r l19; have x19 := grown_ext g19r; have q20 : Nq (bp g4) (bp g19) := o0_16.nq n19; replace o0_16 := o0_16.ext x19; have n22 := Nw.ext hE16 n19; have e21 := hE16.trans x19; refine wla rfl rfl (q_assign (v := (i64 s15.2)) rfl rfl) ?_; obtain ⟨c24, hc24, H15⟩ := bsi H15; obtain ⟨c25, hc25, H15⟩ := bsi H15; refine wln rfl rfl (stp_storeA [] [(bp g4)] rfl A77 rfl rfl (lenA_eq hc24) (lenA_eq hc25) o19 one_u8 ?_); intro w23 o23 g23 l23; replace o0_16 := o0_16.other g23 q20; have e26 := e21.grown g23 n22; refine wl_nil ?_; refine W_th ?_; refine W_seq ?_; refine W_reg (by kernel_rfl) ?_; refine wla rfl rfl (q_move (v := p0) rfl s0_16) ?_; refine wla rfl rfl (q_nilP (g := g10) (m := 0) rfl (Eq.trans rfl hv10)) ?_; refine wla rfl rfl (q_fldC (g := g10) (d := 2) rfl fieldAtC2 rfl) ?_; obtain ⟨r27, hr27, H15⟩ := bsi H15; refine wls rfl rfl (stp_call (vs := [(bp g4), (bpo g10 2)]) Try.func54 rfl rfl rfl (ar2 (by exact s6_16) rfl) (cipher_box_calls s15.1 c10.box g4 (bpo g10 2) r27 _ o0_16 (hP10.lift (Lift.arg e26 (nv_cons n0_16 nv_nil))) hr27) ?_); rintro _ w27 ⟨rfl, x27, hb27_0⟩; refine ⟨_, rfl, ?_⟩; have lx27 := Lift.ownX [(bp g19)] [] x27; replace o23 := o23.otherX x27 q20.symm; have e28 := e26.grownX x27 n0_16; refine wl_nil ?_; refine W_th ?_; refine W_seq ?_; refine W_reg (by kernel_rfl) ?_; obtain ⟨r29, hr29, H15⟩ := bsi H15; refine wls rfl rfl (stp_call (vs := [(bp g4), (i64 1)]) Try.func55 rfl rfl rfl (ar2 (by exact s6_16) rfl) (cipher_rows_calls r27 1 g4 r29 _ hb27_0 hr29) ?_); rintro _ w29 ⟨rfl, x29, hb29_0⟩; refine ⟨_, rfl, ?_⟩; have lx29 := Lift.ownX [(bp g19)] [] x29; replace o23 := o23.otherX x29 q20.symm; have e30 := e28.grownX x29 n0_16; refine wl_nil ?_; refine W_th ?_; refine W_seq ?_; refine W_seq ?_; refine W_reg (by kernel_rfl) ?_; refine wla rfl rfl (q_move (v := (i64 s15.2)) rfl rfl) ?_; refine wla rfl rfl (q_move (v := p0) rfl s0_16) ?_; obtain ⟨r31, hr31, H15⟩ := bsi H15; refine wls rfl rfl (stp_call (vs := [p0]) Try.func22 rfl rfl rfl (ar1 rfl) (cipher_Rounds_calls a0c p0 r31 _ (hp0.lift (Lift.ext e30 _)) hr31) ?_); rintro _ w31 ⟨rfl, x31⟩; refine ⟨_, rfl, ?_⟩; replace o23 := o23.ext x31; replace hb29_0 := hb29_0.ext x31; have e32 := e30.trans x31
      refine wla rfl rfl (q_subI rfl rfl rfl) ?_; refine wla rfl rfl (q_ltI rfl rfl rfl) ?_; refine wl_nil ?_; refine W_th ?_; refine W_cond _ rfl rfl (fun hb33 => ?_) (fun hb33 => ?_)
      · replace H15 := (if_pos (of_decide_eq_true hb33)).symm.trans H15; refine W_reg (by kernel_rfl) ?_; refine wla rfl rfl (q_move (v := p0) rfl s0_16) ?_; refine wla rfl rfl (q_nilP (g := g10) (m := 0) rfl (Eq.trans rfl hv10)) ?_; refine wla rfl rfl (q_fldC (g := g10) (d := 0) rfl fieldAtC0 rfl) ?_; refine wlq rfl rfl (q_loadB (u := fv10) rfl Try.isAgg29 rfl (hB10.ext e32) rfl) ?_; refine wla rfl rfl (q_buildAF (l := ([(2 : UInt8), (1 : UInt8), (1 : UInt8), (3 : UInt8)] : List UInt8)) (us := [(u8 2), (u8 1), (u8 1), (u8 3)]) (z := (0 : UInt8)) rfl A87 Z87 (by exact ⟨rfl, (cst8 (2 : UInt8) rfl), rfl, (cst8 (1 : UInt8) rfl), rfl, (cst8 (1 : UInt8) rfl), rfl, (cst8 (3 : UInt8) rfl), trivial⟩) rfl rfl cel_u8) ?_; obtain ⟨r34, hr34, H15⟩ := bsi H15; refine wls rfl rfl (stp_call (vs := [(bp g4), fv10, (ag u8 (([(2 : UInt8), (1 : UInt8), (1 : UInt8), (3 : UInt8)] : List UInt8)))]) Try.func56 rfl rfl rfl (ar3 (by exact s6_16) rfl rfl) (cipher_columns_calls r29 c10.f ([(2 : UInt8), (1 : UInt8), (1 : UInt8), (3 : UInt8)] : List UInt8) g4 fv10 r34 _ hb29_0 ((hF10.lift (Lift.arg e32 (nv_cons n22 (nv_cons n0_16 nv_nil)))).lift (Lift.sub (fun _ h => ⟨h.2.1, trivial⟩))) hr34) ?_); rintro _ w34 ⟨rfl, x34, hb34_0⟩; refine ⟨_, rfl, ?_⟩; have lx34 := Lift.ownX [(bp g19)] [] x34; replace o23 := o23.otherX x34 q20.symm; have e35 := e32.grownX x34 n0_16; refine wl_nil ?_; refine W_th ?_; refine W_reg (by kernel_rfl) ?_; obtain ⟨c36, hc36, H15⟩ := bsi H15; refine wlq rfl rfl (q_loadA (m := 0) rfl A77 rfl o23 (seg_self _ _) (lenA_eq hc36)) ?_; obtain ⟨r37, hr37, H15⟩ := bsi H15; refine wls rfl rfl (stp_call (vs := [(bp g4), (ag u8 c18)]) Try.func53 rfl rfl rfl (ar2 (by exact s6_16) rfl) (cipher_add_calls r34 c18 g4 r37 _ hb34_0 hr37) ?_); rintro _ w37 ⟨rfl, x37, hb37_0⟩; refine ⟨_, rfl, ?_⟩; have lx37 := Lift.ownX [(bp g19)] [] x37; replace o23 := o23.otherX x37 q20.symm; have e38 := e35.grownX x37 n0_16; refine wl_nil ?_; refine bk_n ?_; refine W_th ?_; refine W_reg (by kernel_rfl) ?_; refine wla rfl rfl (q_addI rfl s32_16 rfl) ?_; refine wla rfl rfl (q_move (v := (i64 ((wI (s15.2 + 1))))) rfl rfl) ?_; refine wl_nil ?_; obtain rfl := osi H15; exact ⟨_, rfl, s0_16, s6_16, s30_16, s31_16, rfl, s58_16, e38, hb37_0, n0_16⟩
      replace H15 := (if_neg (of_decide_eq_false hb33)).symm.trans H15; refine W_skip ?_; refine W_th ?_; refine W_reg (by kernel_rfl) ?_; obtain ⟨c39, hc39, H15⟩ := bsi H15; refine wlq rfl rfl (q_loadA (m := 0) rfl A77 rfl o23 (seg_self _ _) (lenA_eq hc39)) ?_; obtain ⟨r40, hr40, H15⟩ := bsi H15; refine wls rfl rfl (stp_call (vs := [(bp g4), (ag u8 c18)]) Try.func53 rfl rfl rfl (ar2 (by exact s6_16) rfl) (cipher_add_calls r29 c18 g4 r40 _ hb29_0 hr40) ?_); rintro _ w40 ⟨rfl, x40, hb40_0⟩; refine ⟨_, rfl, ?_⟩; have lx40 := Lift.ownX [(bp g19)] [] x40; replace o23 := o23.otherX x40 q20.symm; have e41 := e32.grownX x40 n0_16; refine wl_nil ?_; refine bk_n ?_; refine W_th ?_; refine W_reg (by kernel_rfl) ?_; refine wla rfl rfl (q_addI rfl s32_16 rfl) ?_; refine wla rfl rfl (q_move (v := (i64 ((wI (s15.2 + 1))))) rfl rfl) ?_; refine wl_nil ?_; obtain rfl := osi H15; exact ⟨_, rfl, s0_16, s6_16, s30_16, s31_16, rfl, s58_16, e41, hb40_0, n0_16⟩
    replace H15 := (if_neg (of_decide_eq_false hb17)).symm.trans H15; refine W_exit ?_; refine th_x ?_; obtain rfl := osi H15; obtain rfl := hr15 _ rfl; refine th_x ?_; refine bk_x ?_; exact ⟨s6_16, s58_16, hE16, o0_16, n0_16⟩
  rintro _ w43 ⟨s6_43, s58_43, hE43, o0_43, n0_43⟩; refine W_th ?_; refine W_seq ?_; refine W_reg (by kernel_rfl) ?_; obtain ⟨c44, hc44, H⟩ := bsi H; refine wla rfl rfl (q_sliceA rfl A77 (by exact s6_43)) ?_; obtain ⟨r45, hr45, H⟩ := bsi H; refine wls rfl rfl (stp_call (vs := [(.slice (some ⟨g4, 0, none⟩) 16 16)]) Try.func46 rfl rfl rfl (ar1 rfl) (slices_Clone_sbytebyte_calls x15 (.slice (some ⟨g4, 0, none⟩) 16 16) r45 _ (Blk.by o0_43 (lenA_eq hc44)) hr45) ?_); rintro _ w45 ⟨v45, rfl, x45, n45_0, o45_0⟩; refine ⟨_, rfl, ?_⟩; have o45 : OwK (Sc u8) w45 (v45 :: [(bp g4)]) 5 v45 r45 := OwK.scal o45_0 _; have q46 : Nq (bp g4) v45 := o0_43.nq n45_0; replace o0_43 := o0_43.ext x45; have n48 := Nw.ext hE43 n45_0; have e47 := hE43.trans x45; refine wla rfl rfl (q_assign (v := v45) rfl rfl) ?_; refine wla rfl rfl (q_assign (v := (i64 0)) rfl rfl) ?_; refine wl_nil ?_; refine W_th ?_; refine W_ret ?_; obtain rfl := osi H; refine rt2 v45 (i64 0) rfl rfl rfl rfl rfl s58_43 ?_; exact ⟨v45, rfl, e47, n48, (o45.weak (Sc.stab _) (fun _ _ => trivial))⟩
end Gk

/- A range over a function whose iterator may draw an order of evaluation: what a round needs then stays behind a draw, too. No condition. -/
set_option linter.unusedVariables false
set_option linter.unusedSimpArgs false
namespace Gk
open Go Go.RowKit
def SeqD {α : Type} (P : Program) (gf : Nat) (lb : Array Value) (encs : α → Array Value) (Kp : World → World → Prop) (S : List α → Prop) (N : Nat) (w : World) : Prop :=
  ∀ (l : Nat) (J : List α → World → Prop) (W : World), Below w.heap.size w W → (∀ pre W, J pre W → J pre W.drew) →
    (∀ pre x W1, J pre W1 → pre.length < N → YieldAt Fence.wide 0 P l (encs x) W1 fun e W' => e = .returned (.bool true) ∧ J (pre ++ [x]) W' ∧ Kp W1 W') →
    J [] W → CallsIn Fence.wide 1 P gf (#[.func (.yield l) #[] #[]] ++ lb) W fun e W' => (∃ v, e = .returned v) ∧ ∃ xs, S xs ∧ J xs W'
def RoundD {α : Type} (B : Nat) (Kp : World → World → Prop) (I : List α → World → Prop) (xs : List α) (W : World) : Exit → (Nat → Value) → World → Prop
  | .normal, _, W' => KeepsFrom B W W' ∧ Kp W W' ∧ I xs W'
  | _, _, _ => False
theorem Tn.alloc {B : Nat} (w : World) (o : Obj) : Tn B w (w.alloc o) := ⟨none, World.grownBy_alloc w o none, fun _ e => by cases e⟩
theorem Tn.putO {B : Nat} {w : World} {l : Nat} {o : Obj} (h : w.heap[l]? = some o) (hc : o.isCells = false) (hB : B ≤ l) (o' : Obj) : Tn B w (w.putObj l o') :=
  ⟨some l, grownBy_putObj' w l o', fun r e => by cases e; exact ⟨hB, o, h, hc⟩⟩
section
variable {P : Program} {n : Nat} {Q : Exit → (Nat → Value) → World → Prop} {f : Nat → Value} {w : World}
theorem params1 {n : Nat} {F : Nat → Value} {p : Nat} {a : Value} (hm : F n = undef) (hp : Nat.blt p n = true) :
    ({ tmps := ((#[p] : Array Tmp).zip #[a]).foldl (fun t (p, v) => t.setIfInBounds p v) (fr n F).tmps, defers := [] } : Act) = fr n (upd F p a) := by
  have h1 := fr_put n F (some p) a hp
  have e : (fr n F).defers = [] := by show dec (F n) = []; rw [hm]; rfl
  simp only [updO] at h1
  rw [← h1]
  simp [Act.put, e]
theorem tmps_clear {n : Nat} (f : Nat → Value) : (fr n (upd f n undef)).tmps = (fr n f).tmps := by
  apply Array.ext_getElem?
  intro i
  by_cases hi : i < n
  · rw [fr_get n _ i hi, fr_get n _ i hi, upd_ne f _ (by omega)]
  · rw [fr_none n _ i (by omega), fr_none n _ i (by omega)]
theorem upd_clear {n : Nat} {f : Nat → Value} (hm : f n = undef) : upd f n undef = f := by
  funext t
  by_cases h : t = n
  · subst h; rw [upd_eq, hm]
  · rw [upd_ne f _ h]
theorem mark_one {n : Nat} {f : Nat → Value} (hm : f n = undef) (D : Nat) : fr n (upd f n (bp D)) = { fr n f with defers := { target := .collected D, args := #[] } :: (fr n f).defers } := (fr_mark n f D hm).symm
theorem mark_two {n D' : Nat} {f : Nat → Value} (hm : f n = bp D') (D : Nat) : fr n (upd f n (mk2 D D')) = { fr n f with defers := { target := .collected D, args := #[] } :: (fr n f).defers } := by
  have e1 : (fr n (upd f n (mk2 D D'))).tmps = (fr n f).tmps := by
    apply Array.ext_getElem?
    intro i
    by_cases hi : i < n
    · rw [fr_get n _ i hi, fr_get n _ i hi, upd_ne f _ (by omega)]
    · rw [fr_none n _ i (by omega), fr_none n _ i (by omega)]
  have e2 : (fr n f).defers = [{ target := .collected D', args := #[] }] := by show dec (f n) = _; rw [hm]; rfl
  have e3 : (fr n (upd f n (mk2 D D'))).defers = [{ target := .collected D, args := #[] }, { target := .collected D', args := #[] }] := by
    show dec (upd f n (mk2 D D') n) = _
    rw [upd_eq]; rfl
  rw [e2]
  show Act.mk (fr n (upd f n (mk2 D D'))).tmps (fr n (upd f n (mk2 D D'))).defers = _
  rw [e1, e3]
theorem W_rangeD {α : Type} {g : Operand} {p : Tmp} {assign body : Code} {mk : Nat → Value} (hm : ∀ D, fr n (upd f n (mk D)) = { fr n f with defers := { target := .collected D, args := #[] } :: (fr n f).defers }) (hog : okO n g = true) {gf : Nat} {lb : Array Value} (hg : ev f g = .func (.func gf) #[] lb)
    (eg : ∀ args w, (callFunc gf args).run P w = .ok (.enter gf args) w)
    {ea : α → Value} {Kp : World → World → Prop} {S : List α → Prop} {N : Nat} (hseq : SeqD P gf lb (fun x => #[ea x]) Kp S N w)
    (hKt : ∀ {A B C : World}, Kp A B → Kp B C → Kp A C) (hKb : ∀ (W : World) (l : Nat) (o o' : Obj), w.heap.size ≤ l → W.heap[l]? = some o → o.isCells = false → Kp W (W.putObj l o')) (hp : Nat.blt p n = true)
    (I : List α → World → Prop) (hI : ∀ s W W', Tn w.heap.size W W' → I s W → I s W') (hD : ∀ s W, I s W → I s W.drew) (h0 : I [] w) (fa : α → Nat → Value)
    (hassign : ∀ (l : Nat) (x : α) (W1 : World) (K : (Nat → Value) → World → Prop), K (fa x) W1 → W (ro := some l) P n assign (Th K (fun _ _ _ => False)) (upd (upd f n undef) p (ea x)) W1)
    (hbody : ∀ (l : Nat) (pre : List α) (x : α) (W1 : World), I pre W1 → pre.length < N → W (ro := some l) P n body (RoundD w.heap.size Kp I (pre ++ [x]) W1) (fa x) W1)
    (hdone : ∀ (D : Nat) (xs : List α) (W1 : World), w.heap.size ≤ D → S xs → I xs W1 → W1.heap[D]? = some (.deferred (some [])) → Q .normal (upd f n (mk D)) W1) :
    W (ro := none) P n (.rangeFunc g #[p] assign body) Q f w := by
  unfold W
  refine (wpIn_wide (n := 0)).2 ((wpIn_wide (n := 2)).1 ?_)
  refine wpIn_rangeFunc ?_
  intro fn hfn
  obtain ⟨rc, hrc⟩ : ∃ rc : LoopState → Loop, rc = fun st => { state := st, pending := none, fn, tmps := (fr n f).tmps, params := #[p], assign, body, defers := w.heap.size } := ⟨_, rfl⟩
  have hent := run_enterLoop_outer (P := P) (w := w) fn (fr n f).tmps #[p] assign body
  have eR : ({ state := .ready, pending := none, fn, tmps := (fr n f).tmps, params := #[p], assign, body, defers := w.heap.size } : Loop) = rc .ready := by rw [hrc]
  rw [eR] at hent
  generalize hA : w.alloc (.deferred (some [])) = WA at hent
  generalize hB : WA.alloc (.loop (rc .ready)) = WB at hent
  have sA : WA.heap.size = w.heap.size + 1 := by rw [← hA]; simp
  have sB : WB.heap.size = w.heap.size + 2 := by rw [← hB]; simp [sA]
  have tA : Tn w.heap.size w WA := by rw [← hA]; exact Tn.alloc _ _
  have tB : Tn w.heap.size WA WB := by rw [← hB]; exact Tn.alloc _ _
  have hL : WB.heap[w.heap.size + 1]? = some (.loop (rc .ready)) := by
    have := alloc_new WA (.loop (rc .ready))
    rwa [sA, hB] at this
  have hK : WB.heap[w.heap.size]? = some (.deferred (some [])) := by
    have h1 := alloc_new w (.deferred (some []))
    rw [hA] at h1
    have h2 := alloc_old WA (.loop (rc .ready)) w.heap.size (by omega)
    rw [hB] at h2
    exact h2.trans h1
  have hbel : Below w.heap.size w WB := by
    have h1 := (Below.refl w.heap.size w).alloc (Nat.le_refl _) (.deferred (some []))
    rw [hA] at h1
    have h2 := h1.alloc (by omega) (.loop (rc .ready))
    rwa [hB] at h2
  refine ⟨w.heap.size + 1, [{ target := .collected w.heap.size, args := #[] }], WB, { target := .fn (.func gf) lb, args := #[.func (.yield (w.heap.size + 1)) #[] #[]] }, WB, gf, #[.func (.yield (w.heap.size + 1)) #[] #[]] ++ lb, WB, hent, ?_, ?_, ?_, fun _ => by decide, ?_⟩
  · have hgv : (fr n f).eval g = .func (.func gf) #[] lb := by rw [fr_eval n f g hog]; exact hg
    simp only [resolve, hgv]
    simp [go_sem]
  · intro f' _; trivial
  · simp [invoke, go_sem, eg]
  refine (hseq (w.heap.size + 1) (fun pre X => I pre X ∧ X.heap[w.heap.size + 1]? = some (.loop (rc .ready)) ∧ X.heap[w.heap.size]? = some (.deferred (some []))) WB hbel (fun pre X h => ⟨hD pre X h.1, h.2.1, h.2.2⟩) ?_ ⟨hI _ _ _ tB (hI _ _ _ tA h0), hL, hK⟩).mono ?_
  · rintro pre x X ⟨hi, hl, hk⟩ hlen
    have hlt := lt_of_get hl
    have hy := run_yield (P := P) (args := #[ea x]) hl (by rw [hrc]; rfl)
    have hbr := run_beginRound (P := P) hl (by rw [hrc])
    generalize hX2 : X.putObj (w.heap.size + 1) (.loop { rc .ready with state := .busy }) = X2 at hbr
    have hl2 : X2.heap[w.heap.size + 1]? = some (.loop { rc .ready with state := .busy }) := by rw [← hX2]; exact World.putObj_heap_same hlt
    have hk2 : X2.heap[w.heap.size]? = some (.deferred (some [])) := by rw [← hX2]; exact (World.putObj_heap_other (by omega)).trans hk
    have hw2 : Kp X X2 := by rw [← hX2]; exact hKb _ _ _ _ (by omega) hl rfl
    have hi2 : I pre X2 := by rw [← hX2]; exact hI _ _ _ (Tn.putO hl rfl (by omega) _) hi
    refine ⟨_, _, _, _, hy, ?_⟩
    have hfn' : Fence.wide.fn (rc .ready).fn := trivial
    refine roundIn_of_wpIn hfn' ?_
    have hpar : ({ tmps := ((rc .ready).params.zip #[ea x]).foldl (fun t (p, v) => t.setIfInBounds p v) (rc .ready).tmps, defers := [] } : Act) = fr n (upd (upd f n undef) p (ea x)) := by
      rw [hrc, ← tmps_clear f]; exact params1 (upd_eq f n undef) hp
    rw [hpar]
    have hasg := hassign (w.heap.size + 1) x X (fun f' X' => ∃ X2, (Instr.beginRound (w.heap.size + 1)).run P X' = .ok () X2 ∧ body.wpIn (Fence.wide.inRound (w.heap.size + 1)) 0 P (roundPost P (w.heap.size + 1) fun e W' => e = .returned (.bool true) ∧ (I (pre ++ [x]) W' ∧ W'.heap[w.heap.size + 1]? = some (.loop (rc .ready)) ∧ W'.heap[w.heap.size]? = some (.deferred (some []))) ∧ Kp X W') (fr n f') X2) ⟨X2, hbr, ?_⟩
    · have e1 : (rc .ready).assign = assign := by rw [hrc]
      have e2 : (rc .ready).body = body := by rw [hrc]
      rw [e1, e2]
      refine wpIn_mono hasg ?_
      rintro e a X' ⟨f', rfl, q⟩
      cases e <;> exact q
    · refine wpIn_mono (hbody (w.heap.size + 1) pre x X2 hi2 hlen) ?_
      rintro e a X3 ⟨f', rfl, q⟩
      cases e <;> first | exact q.elim | skip
      obtain ⟨k3, kp3, hi3⟩ := q
      have hl3 := k3.same _ _ (by omega) hl2 rfl
      have hk3 := k3.same _ _ (Nat.le_refl _) hk2 rfl
      have her := run_endRound (P := P) none hl3
      have e3 : ({ ({ rc .ready with state := .busy } : Loop) with state := if (none : Option Code).isNone then .ready else .done, pending := none } : Loop) = rc .ready := by rw [hrc]; rfl
      rw [e3] at her
      refine ⟨_, _, her, rfl, ⟨hI _ _ _ (Tn.putO hl3 rfl (by omega) _) hi3, World.putObj_heap_same (lt_of_get hl3), (World.putObj_heap_other (by omega)).trans hk3⟩, hKt (hKt hw2 kp3) (hKb _ _ _ _ (by omega) hl3 rfl)⟩
  · rintro e X ⟨⟨v, rfl⟩, xs, hS, hi, hl, hk⟩
    have hend := run_endLoop (P := P) hl (by rw [hrc]; simp)
    have hp0 : (rc .ready).pending = none := by rw [hrc]
    rw [hp0] at hend
    refine ⟨none, _, hend, ?_⟩
    refine ⟨_, (hm w.heap.size).symm, hdone w.heap.size xs _ (Nat.le_refl _) hS (hI _ _ _ (Tn.putO hl rfl (by omega) _) hi) ((World.putObj_heap_other (by omega)).trans hk)⟩
theorem W_rangeDG {α α' σ : Type} {mk : Nat → Value} {π : α' → α} {xs : List α} {fstep : σ → α → Option σ} {s0 r : σ} {g : Operand} {p : Tmp} {assign body : Code} (hfold : rangeL fstep xs s0 = some r)
    (hm : ∀ D, fr n (upd f n (mk D)) = { fr n f with defers := { target := .collected D, args := #[] } :: (fr n f).defers }) (hog : okO n g = true) {gf : Nat} {lb : Array Value} (hg : ev f g = .func (.func gf) #[] lb)
    (eg : ∀ args w, (callFunc gf args).run P w = .ok (.enter gf args) w)
    {ea : α' → Value} {Rd : World → Prop} {S : List α' → Prop} {N : Nat} (hN : N = xs.length) (hseq : SeqD P gf lb (fun x => #[ea x]) (Keep Rd) S N w) (hS : ∀ ys, S ys → ys.map π = xs) (hmem : ∀ x, π x ∈ xs)
    (hRdT : ∀ W W', Tn w.heap.size W W' → Rd W → Rd W') (hp : Nat.blt p n = true)
    (I : σ → World → Prop) (hI : ∀ s W W', Tn w.heap.size W W' → I s W → I s W') (hD : ∀ s W, I s W → I s W.drew) (h0 : I s0 w) (ga : α' → (Nat → Value) → Nat → Value)
    (hassign : ∀ (l : Nat) (x : α') (W1 : World) (K : (Nat → Value) → World → Prop), K (ga x (upd (upd f n undef) p (ea x))) W1 → W (ro := some l) P n assign (Th K (fun _ _ _ => False)) (upd (upd f n undef) p (ea x)) W1)
    (hbody : ∀ (l : Nat) (x : α') (s s' : σ) (W1 : World), I s W1 → fstep s (π x) = some s' → W (ro := some l) P n body (RoundK w.heap.size Rd (I s') W1) (ga x (upd (upd f n undef) p (ea x))) W1)
    (hdone : ∀ (D : Nat) (W1 : World), w.heap.size ≤ D → I r W1 → W1.heap[D]? = some (.deferred (some [])) → Q .normal (upd f n (mk D)) W1) :
    W (ro := none) P n (.rangeFunc g #[p] assign body) Q f w := by
  obtain ⟨hall, hxs⟩ := rangeL_some hfold
  refine W_rangeD hm hog hg eg hseq (fun h k => h.trans k) ?_ hp (fun pre W => ∃ s, (pre.map π).foldlM fstep s0 = some s ∧ I s W) ?_ ?_ ⟨s0, rfl, h0⟩ (fun x => ga x (upd (upd f n undef) p (ea x))) hassign ?_ ?_
  · intro W l o o' hl ho hc
    have hg := grownBy_putObj' W l o'
    exact ⟨hg.size, fun h => hRdT _ _ ⟨some l, hg, fun r e => by cases e; exact ⟨hl, o, ho, hc⟩⟩ h⟩
  · rintro pre W W' t ⟨s, hs, h⟩
    exact ⟨s, hs, hI _ _ _ t h⟩
  · rintro pre W ⟨s, hs, h⟩
    exact ⟨s, hs, hD _ _ h⟩
  · rintro l pre x W1 ⟨s, hs, h⟩ hl
    obtain ⟨s2, h2⟩ := hall ((pre ++ [x]).map π) (by simp; omega) (fun y hy => by
      obtain ⟨z, _, rfl⟩ := List.mem_map.1 hy
      exact hmem z)
    have h3 : fstep s (π x) = some s2 := by
      rw [List.map_append, foldlM_app, hs] at h2
      simpa using h2
    refine wpIn_mono (hbody l x s s2 W1 h h3) ?_
    rintro e a w' ⟨f', rfl, q⟩
    refine ⟨f', rfl, ?_⟩
    cases e <;> first | exact q.elim | exact ⟨q.1, ⟨q.1.size, fun _ => q.2.1⟩, s2, h2, q.2.2⟩
  · rintro D ys W1 hD hSy ⟨s, hs, h⟩ hK
    rw [hS ys hSy, hxs] at hs
    obtain rfl := Option.some.inj hs
    exact hdone D W1 hD h hK
theorem W_rangeDS {α α' σ : Type} {π : α' → α} {xs : List α} {fstep : σ → α → Option σ} {s0 r : σ} {g : Operand} {p : Tmp} {assign body : Code} (hfold : rangeL fstep xs s0 = some r)
    (hm : f n = undef) (hog : okO n g = true) {gf : Nat} {lb : Array Value} (hg : ev f g = .func (.func gf) #[] lb)
    (eg : ∀ args w, (callFunc gf args).run P w = .ok (.enter gf args) w)
    {ea : α' → Value} {Rd : World → Prop} {S : List α' → Prop} {N : Nat} (hN : N = xs.length) (hseq : SeqD P gf lb (fun x => #[ea x]) (Keep Rd) S N w) (hS : ∀ ys, S ys → ys.map π = xs) (hmem : ∀ x, π x ∈ xs)
    (hRdT : ∀ W W', Tn w.heap.size W W' → Rd W → Rd W') (hp : Nat.blt p n = true)
    (I : σ → World → Prop) (hI : ∀ s W W', Tn w.heap.size W W' → I s W → I s W') (hD : ∀ s W, I s W → I s W.drew) (h0 : I s0 w) (ga : α' → (Nat → Value) → Nat → Value)
    (hassign : ∀ (l : Nat) (x : α') (W1 : World) (K : (Nat → Value) → World → Prop), K (ga x (upd f p (ea x))) W1 → W (ro := some l) P n assign (Th K (fun _ _ _ => False)) (upd f p (ea x)) W1)
    (hbody : ∀ (l : Nat) (x : α') (s s' : σ) (W1 : World), I s W1 → fstep s (π x) = some s' → W (ro := some l) P n body (RoundK w.heap.size Rd (I s') W1) (ga x (upd f p (ea x))) W1)
    (hdone : ∀ (D : Nat) (W1 : World), w.heap.size ≤ D → I r W1 → W1.heap[D]? = some (.deferred (some [])) → Q .normal (upd f n (bp D)) W1) :
    W (ro := none) P n (.rangeFunc g #[p] assign body) Q f w := by
  have hc := upd_clear hm
  refine W_rangeDG (mk := bp) hfold (mark_one hm) hog hg eg hN hseq hS hmem hRdT hp I hI hD h0 ga ?_ ?_ hdone
  · rw [hc]; exact hassign
  · rw [hc]; exact hbody
end
def chunksI {α : Type} (l : List α) (n : Nat) : List (Int × List α) := (List.range ((l.length + n - 1) / n)).map fun j => (((j * n : Nat) : Int), (l.drop (j * n)).take n)
abbrev ChEl {α : Type} (l : List α) (n : Nat) := {x : Int × List α // subL3 l x.1 (x.1 + (x.2.length : Int)) (x.1 + (x.2.length : Int)) = some x.2 ∧ x ∈ chunksI l n}
theorem chunksI_lt {α : Type} {l : List α} {n j : Nat} (hn : 1 ≤ n) : j < (chunksI l n).length ↔ j * n < l.length := by
  simp only [chunksI, List.length_map, List.length_range]
  rw [Nat.lt_div_iff_mul_lt (by omega)]
  constructor
  · intro h; omega
  · intro h; omega
theorem chunksI_at {α : Type} {l : List α} {n j : Nat} (hn : 1 ≤ n) (h : j * n < l.length) : (chunksI l n)[j]? = some (((j * n : Nat) : Int), (l.drop (j * n)).take n) := by
  have := (chunksI_lt (l := l) hn).2 h
  simp only [chunksI, List.length_map, List.length_range] at this
  simp [chunksI, this]
theorem chunksI_sub {α : Type} {l : List α} {n j : Nat} (h : j * n < l.length) : subL3 l ((j * n : Nat) : Int) (((j * n : Nat) : Int) + (((l.drop (j * n)).take n).length : Int)) (((j * n : Nat) : Int) + (((l.drop (j * n)).take n).length : Int)) = some ((l.drop (j * n)).take n) := by
  refine subL3_some.2 ⟨?_, ?_⟩
  · simp only [List.length_take, List.length_drop]; omega
  · have e : (((j * n : Nat) : Int) + (((l.drop (j * n)).take n).length : Int)).toNat = j * n + ((l.drop (j * n)).take n).length := by omega
    rw [e, Int.toNat_natCast, List.drop_take, Nat.add_sub_cancel_left]
    simp [List.take_take]
end Gk

/- slices.Chunk over bytes and over rows: what it hands back, and its iterator's contract. (Printed by genXFk.py.) No condition. -/
set_option linter.unusedVariables false
set_option linter.unusedSimpArgs false
namespace Gk
open Go Go.Proofs Go.RowKit
theorem run_yieldcall1 {P : Program} {o : Oper} {f : Nat → Value} {w : World} {l : Nat} {x y : Operand} {ts : Array TypeId} {a : Value} {r : Next} (ho : o.op = .call ⟨.value x, #[y], ts⟩) (hx : ev f x = .func (.yield l) #[] #[]) (hy : ev f y = a)
    (h : (Instr.yield l #[a]).run P w = .ok r w) : (execOp (ev f) o).run P w = .ok r w := by
  simp [execOp, ho, hx, hy, resolve, invoke, Deferred.ofValue, h]
theorem Chunk_bytes_calls (v : Value) (hv : v.cells = #[v]) (n : Int) (hn : 1 ≤ n) (w : World) : Calls Try.prog 45 [v, i64 n].toArray w fun e w' =>
    ∃ g1 g2, e = .returned (.func (.func 73) #[] #[bp g1, bp g2]) ∧ Nw w (bp g1) ∧ Nw w (bp g2) ∧ Nq (bp g1) (bp g2) ∧ Blk w' g1 22 #[v] ∧ Blk w' g2 3 #[i64 n] ∧ Ext w w' := by
  refine calls_W (n := 9) Try.func45 rfl rfl rfl ?_; refine W_seq ?_; refine W_reg (by kernel_rfl) ?_; refine wls rfl rfl (stp_box (v := v) rfl rfl ?_); intro w1 hb1 hg1; rw [hv] at hb1; refine wls rfl rfl (stp_box (v := i64 n) rfl rfl ?_); intro w2 hb2 hg2; have hb1' : Blk w2 w.heap.size 22 #[v] := hb1.ext (grown_ext hg2); have hs1 : w.heap.size < w1.heap.size := hb1.lt; refine wla rfl rfl (q_assign (v := .nilFunc) rfl rfl) ?_; refine wl_nil ?_; refine W_th ?_; refine W_seq ?_; refine W_seq ?_; refine W_reg (by kernel_rfl) ?_; refine wlq rfl rfl (q_loadB (u := i64 n) rfl Try.isAgg3 rfl hb2 rfl) ?_; refine wla rfl rfl (q_ltI rfl rfl rfl) ?_; refine wl_nil ?_; refine W_th ?_; refine W_cond false rfl ?_ (fun h => by cases h) (fun _ => ?_)
  · exact congrArg Value.bool (decide_eq_false (by omega))
  refine W_skip ?_; refine W_th ?_; refine W_seq ?_; refine W_reg (by kernel_rfl) ?_; refine wla rfl rfl (q_mkfuncN (vs := [bp w.heap.size, bp w1.heap.size]) rfl (ar2 rfl rfl)) ?_; refine wla rfl rfl (q_assign (v := .func (.func 73) #[] [bp w.heap.size, bp w1.heap.size].toArray) rfl rfl) ?_; refine wl_nil ?_; refine W_th ?_; refine W_ret ?_; refine rt1 (.func (.func 73) #[] [bp w.heap.size, bp w1.heap.size].toArray) rfl rfl rfl rfl ?_; refine ⟨w.heap.size, w1.heap.size, rfl, Nw.bp w, ?_, ?_, hb1', hb2, (grown_ext hg1).trans (grown_ext hg2)⟩
  · intro k hk; have := hs_bp hk; omega
  intro k h1 h2; have := hs_bp h1; have := hs_bp h2; omega
def RdC_bytes (l : List (UInt8)) (n : Int) (g1 g2 : Nat) (v : Value) (w : World) : Prop := Blk w g1 22 #[v] ∧ Blk w g2 3 #[i64 n] ∧ By w [] v l
theorem RdC_bytes.tn {l : List (UInt8)} {n : Int} {g1 g2 B : Nat} {v : Value} {W W' : World} (t : Tn B W W') (h : RdC_bytes l n g1 g2 v W) : RdC_bytes l n g1 g2 v W' := ⟨h.1.tn t, h.2.1.tn t, h.2.2.lift (t.lift _)⟩
theorem RdC_bytes.ext {l : List (UInt8)} {n : Int} {g1 g2 : Nat} {v : Value} {W W' : World} (t : Ext W W') (h : RdC_bytes l n g1 g2 v W) : RdC_bytes l n g1 g2 v W' := ⟨h.1.ext t, h.2.1.ext t, h.2.2.lift (Lift.ext t _)⟩
theorem RdC_bytes.below {l : List (UInt8)} {n : Int} {g1 g2 : Nat} {v : Value} {W W' : World} (t : Below W.heap.size W W') (h : RdC_bytes l n g1 g2 v W) : RdC_bytes l n g1 g2 v W' :=
  ⟨(t.block g1 h.1.lt).trans h.1, (t.block g2 h.2.1.lt).trans h.2.1, h.2.2.lift ⟨fun k o ho _ _ => (t.block k (lt_of_get ho)).trans ho, fun _ _ _ => trivial⟩⟩
set_option maxHeartbeats 4000000 in
/-- slices.Chunk's iterator over []byte. -/
theorem chunk_bytes (l : List (UInt8)) (n : Nat) (hn : 1 ≤ n) (v : Value) (g1 g2 : Nat) (w : World) (hrd : RdC_bytes l (n : Int) g1 g2 v w) (hlen : l.length + n < 9223372036854775808) :
    SeqD Try.prog 73 #[bp g1, bp g2] (fun x : ChEl l n => #[subW v x.1.1.toNat (x.1.1 + (x.1.2.length : Int)).toNat (x.1.1 + (x.1.2.length : Int)).toNat]) (Keep (RdC_bytes l (n : Int) g1 g2 v)) (fun ys => ys.map (·.1) = chunksI l n) (chunksI l n).length w := by
  intro lp J W0 hW hJd hY h0
  have hrd0 : RdC_bytes l (n : Int) g1 g2 v W0 := hrd.below hW
  refine callsIn_wide.2 ?_
  show Calls Try.prog 73 [Value.func (.yield lp) #[] #[], bp g1, bp g2].toArray W0 _
  refine calls_W (n := 31) Try.func73 rfl rfl rfl ?_
  refine W_seq ?_
  refine W_reg (by kernel_rfl) ?_
  refine wla rfl rfl (q_assign (v := i64 0) rfl rfl) ?_
  refine wl_nil ?_
  refine W_th ?_
  refine W_block ?_
  refine W_loopG (fun k f w => f 31 = undef ∧ f 0 = .func (.yield lp) #[] #[] ∧ f 1 = bp g1 ∧ f 2 = bp g2 ∧ k ≤ (chunksI l n).length ∧ f 4 = i64 ((((chunksI l n).length - k) * n : Nat) : Int) ∧ (∃ ys : List (ChEl l n), ys.map (·.1) = (chunksI l n).take ((chunksI l n).length - k) ∧ J ys w) ∧ RdC_bytes l (n : Int) g1 g2 v w) (chunksI l n).length ?_ ?_
  · exact ⟨rfl, rfl, rfl, rfl, Nat.le_refl _, by rw [Nat.sub_self, Nat.zero_mul]; rfl, ⟨[], by simp, h0⟩, hrd0⟩
  · rintro k f w1 ⟨hm, s0, s1, s2, hk, s4, ⟨ys, hys, hJ⟩, hrd1⟩
    obtain ⟨hB1, hB2, hl1⟩ := hrd1
    generalize hj : (chunksI l n).length - k = j at *
    refine W_seq ?_
    refine W_seq ?_
    refine W_reg (by kernel_rfl) ?_
    refine wla rfl rfl (q_move (v := i64 ((j * n : Nat) : Int)) rfl s4) ?_
    refine wlq rfl rfl (q_loadB (u := v) rfl Try.isAgg22 s1 hB1 rfl) ?_
    refine wla rfl rfl (q_len rfl T22.sl rfl hl1) ?_
    refine wla rfl rfl (q_ltI rfl rfl rfl) ?_
    refine wl_nil ?_
    refine W_th ?_
    refine W_cond _ rfl rfl (fun hb => ?_) (fun hb => ?_)
    · have hlt : j * n < l.length := by have := of_decide_eq_true hb; omega
      have hjk : j < (chunksI l n).length := (chunksI_lt hn).2 hlt
      have e1 := chunksI_at hn hlt
      have e2 := chunksI_sub (n := n) hlt
      generalize hc : (l.drop (j * n)).take n = c at *
      have hcl : c.length = min n (l.length - j * n) := by rw [← hc]; simp
      refine W_skip ?_
      refine W_th ?_
      refine W_seq ?_
      refine W_block ?_
      refine W_seq ?_
      refine W_draw [0, 1] [(0, 1), (1, 1), (2, 0), (3, 0), (4, 0), (5, 0), (6, 0)] mixed (by kernel_rfl) (by kernel_rfl) (by kernel_rfl) (by kernel_rfl) ?_
      have xd := Ext.drew w1
      have hJ2 := hJd ys w1 hJ
      have hrd2 : RdC_bytes l (n : Int) g1 g2 v (World.drew w1) := RdC_bytes.ext xd ⟨hB1, hB2, hl1⟩
      generalize World.drew w1 = w2 at *
      obtain ⟨hB1', hB2', hl2⟩ := hrd2
      refine wsq rfl rfl rfl (q_loadB (u := i64 (n : Int)) rfl Try.isAgg3 s2 hB2' rfl) ?_
      refine wsq rfl rfl rfl (q_loadB (u := v) rfl Try.isAgg22 s1 hB1' rfl) ?_
      refine wsa rfl rfl rfl (q_move (v := i64 ((j * n : Nat) : Int)) rfl s4) ?_
      have hsub : subL l ((j * n : Nat) : Int) (l.length : Int) = some (l.drop (j * n)) := by
        refine subL_some.2 ⟨by omega, ?_⟩
        rw [Int.toNat_natCast, Int.toNat_natCast, List.take_of_length_le (Nat.le_refl _)]
      refine wsa rfl rfl rfl (q_slice (a := ((j * n : Nat) : Int)) (b := (l.length : Int)) rfl T22 rfl hl2 rfl rfl hsub) ?_
      refine wsa rfl rfl rfl (q_len rfl T22.sl rfl (SlK.cut hl2 hsub)) ?_
      have hmin : (if ((l.drop (j * n)).length : Int) < (n : Int) then ((l.drop (j * n)).length : Int) else (n : Int)) = (c.length : Int) := by
        rw [hcl, List.length_drop]; split <;> omega
      refine wsa rfl rfl rfl (q_minI (a := (n : Int)) (b := ((l.drop (j * n)).length : Int)) rfl rfl rfl) ?_
      rw [hmin]
      refine wsa rfl rfl rfl (q_assign (v := i64 (c.length : Int)) rfl rfl) ?_
      refine ws_nil ?_
      refine W_th ?_
      refine W_seq ?_
      refine W_reg (by kernel_rfl) ?_
      have hadd : wI (((j * n : Nat) : Int) + (c.length : Int)) = ((j * n : Nat) : Int) + (c.length : Int) := wI_of (by omega) (by omega)
      refine wla rfl rfl (q_move (v := .func (.yield lp) #[] #[]) rfl s0) ?_
      refine wlq rfl rfl (q_loadB (u := v) rfl Try.isAgg22 s1 hB1' rfl) ?_
      refine wla rfl rfl (q_move (v := i64 ((j * n : Nat) : Int)) rfl s4) ?_
      refine wla rfl rfl (q_move (v := i64 ((j * n : Nat) : Int)) rfl s4) ?_
      refine wla rfl rfl (q_move (v := i64 (c.length : Int)) rfl rfl) ?_
      refine wla rfl rfl (q_addI (a := ((j * n : Nat) : Int)) (b := (c.length : Int)) rfl rfl rfl) ?_
      refine wla rfl rfl (q_move (v := i64 ((j * n : Nat) : Int)) rfl s4) ?_
      refine wla rfl rfl (q_move (v := i64 (c.length : Int)) rfl rfl) ?_
      refine wla rfl rfl (q_addI (a := ((j * n : Nat) : Int)) (b := (c.length : Int)) rfl rfl rfl) ?_
      rw [hadd]
      refine wla rfl rfl (q_slice3 (a := ((j * n : Nat) : Int)) (b := ((j * n : Nat) : Int) + (c.length : Int)) (c := ((j * n : Nat) : Int) + (c.length : Int)) rfl T22 rfl hl2 rfl rfl rfl e2) ?_
      have hyl : ys.length < (chunksI l n).length := by
        have := congrArg List.length hys
        rw [List.length_map, List.length_take] at this
        omega
      obtain ⟨fn, tmps, assign, body, hy, hR⟩ := hY ys ⟨(((j * n : Nat) : Int), c), e2, List.mem_of_getElem? e1⟩ w2 hJ2 hyl
      refine wl_yield rfl (run_yieldcall1 rfl rfl rfl hy) (hR.mono ?_)
      rintro e w3 ⟨rfl, hJ3, hk3⟩
      refine ⟨_, rfl, ?_⟩
      refine wla rfl rfl (q_not (b := true) rfl rfl) ?_
      refine wl_nil ?_
      refine W_th ?_
      refine W_cond false rfl rfl (fun h => by cases h) (fun _ => ?_)
      refine W_skip ?_
      refine bk_n ?_
      refine W_th ?_
      refine W_reg (by kernel_rfl) ?_
      have hrd3 : RdC_bytes l (n : Int) g1 g2 v w3 := hk3.2 ⟨hB1', hB2', hl2⟩
      refine wla rfl rfl (q_move (v := i64 ((j * n : Nat) : Int)) rfl s4) ?_
      refine wlq rfl rfl (q_loadB (u := i64 (n : Int)) rfl Try.isAgg3 s2 hrd3.2.1 rfl) ?_
      refine wla rfl rfl (q_addI (a := ((j * n : Nat) : Int)) (b := (n : Int)) rfl rfl rfl) ?_
      have e3 : wI (((j * n : Nat) : Int) + (n : Int)) = (((j + 1) * n : Nat) : Int) := by
        rw [wI_of (by omega) (by omega), Nat.succ_mul]; omega
      rw [e3]
      refine wla rfl rfl (q_assign (v := i64 (((j + 1) * n : Nat) : Int)) rfl rfl) ?_
      refine wl_nil ?_
      refine ⟨k - 1, by omega, hm, s0, s1, s2, by omega, ?_, ⟨_, ?_, hJ3⟩, hrd3⟩
      · rw [show (chunksI l n).length - (k - 1) = j + 1 by omega]; rfl
      · rw [show (chunksI l n).length - (k - 1) = j + 1 by omega, List.take_add_one, e1, List.map_append, hys]; rfl
    · have hge : ¬ j * n < l.length := by have := of_decide_eq_false hb; omega
      have hjk : ¬ j < (chunksI l n).length := fun h => hge ((chunksI_lt hn).1 h)
      refine W_exit ?_
      refine th_x ?_
      refine th_x ?_
      refine bk_x ?_
      refine rtn (rt0 rfl hm ?_)
      refine ⟨⟨_, rfl⟩, ys, ?_, hJ⟩
      show ys.map (·.1) = chunksI l n
      rw [hys]
      exact List.take_of_length_le (by omega)
theorem Chunk_rows_calls (v : Value) (hv : v.cells = #[v]) (n : Int) (hn : 1 ≤ n) (w : World) : Calls Try.prog 50 [v, i64 n].toArray w fun e w' =>
    ∃ g1 g2, e = .returned (.func (.func 74) #[] #[bp g1, bp g2]) ∧ Nw w (bp g1) ∧ Nw w (bp g2) ∧ Nq (bp g1) (bp g2) ∧ Blk w' g1 61 #[v] ∧ Blk w' g2 3 #[i64 n] ∧ Ext w w' := by
  refine calls_W (n := 9) Try.func50 rfl rfl rfl ?_; refine W_seq ?_; refine W_reg (by kernel_rfl) ?_; refine wls rfl rfl (stp_box (v := v) rfl rfl ?_); intro w1 hb1 hg1; rw [hv] at hb1; refine wls rfl rfl (stp_box (v := i64 n) rfl rfl ?_); intro w2 hb2 hg2; have hb1' : Blk w2 w.heap.size 61 #[v] := hb1.ext (grown_ext hg2); have hs1 : w.heap.size < w1.heap.size := hb1.lt; refine wla rfl rfl (q_assign (v := .nilFunc) rfl rfl) ?_; refine wl_nil ?_; refine W_th ?_; refine W_seq ?_; refine W_seq ?_; refine W_reg (by kernel_rfl) ?_; refine wlq rfl rfl (q_loadB (u := i64 n) rfl Try.isAgg3 rfl hb2 rfl) ?_; refine wla rfl rfl (q_ltI rfl rfl rfl) ?_; refine wl_nil ?_; refine W_th ?_; refine W_cond false rfl ?_ (fun h => by cases h) (fun _ => ?_)
  · exact congrArg Value.bool (decide_eq_false (by omega))
  refine W_skip ?_; refine W_th ?_; refine W_seq ?_; refine W_reg (by kernel_rfl) ?_; refine wla rfl rfl (q_mkfuncN (vs := [bp w.heap.size, bp w1.heap.size]) rfl (ar2 rfl rfl)) ?_; refine wla rfl rfl (q_assign (v := .func (.func 74) #[] [bp w.heap.size, bp w1.heap.size].toArray) rfl rfl) ?_; refine wl_nil ?_; refine W_th ?_; refine W_ret ?_; refine rt1 (.func (.func 74) #[] [bp w.heap.size, bp w1.heap.size].toArray) rfl rfl rfl rfl ?_; refine ⟨w.heap.size, w1.heap.size, rfl, Nw.bp w, ?_, ?_, hb1', hb2, (grown_ext hg1).trans (grown_ext hg2)⟩
  · intro k hk; have := hs_bp hk; omega
  intro k h1 h2; have := hs_bp h1; have := hs_bp h2; omega
def RdC_rows (l : List (List UInt8)) (n : Int) (g1 g2 : Nat) (v : Value) (w : World) : Prop := Blk w g1 61 #[v] ∧ Blk w g2 3 #[i64 n] ∧ Rw w [] v l
theorem RdC_rows.tn {l : List (List UInt8)} {n : Int} {g1 g2 B : Nat} {v : Value} {W W' : World} (t : Tn B W W') (h : RdC_rows l n g1 g2 v W) : RdC_rows l n g1 g2 v W' := ⟨h.1.tn t, h.2.1.tn t, h.2.2.lift (t.lift _)⟩
theorem RdC_rows.ext {l : List (List UInt8)} {n : Int} {g1 g2 : Nat} {v : Value} {W W' : World} (t : Ext W W') (h : RdC_rows l n g1 g2 v W) : RdC_rows l n g1 g2 v W' := ⟨h.1.ext t, h.2.1.ext t, h.2.2.lift (Lift.ext t _)⟩
theorem RdC_rows.below {l : List (List UInt8)} {n : Int} {g1 g2 : Nat} {v : Value} {W W' : World} (t : Below W.heap.size W W') (h : RdC_rows l n g1 g2 v W) : RdC_rows l n g1 g2 v W' :=
  ⟨(t.block g1 h.1.lt).trans h.1, (t.block g2 h.2.1.lt).trans h.2.1, h.2.2.lift ⟨fun k o ho _ _ => (t.block k (lt_of_get ho)).trans ho, fun _ _ _ => trivial⟩⟩
set_option maxHeartbeats 4000000 in
/-- slices.Chunk's iterator over [][]byte. -/
theorem chunk_rows (l : List (List UInt8)) (n : Nat) (hn : 1 ≤ n) (v : Value) (g1 g2 : Nat) (w : World) (hrd : RdC_rows l (n : Int) g1 g2 v w) (hlen : l.length + n < 9223372036854775808) :
    SeqD Try.prog 74 #[bp g1, bp g2] (fun x : ChEl l n => #[subW v x.1.1.toNat (x.1.1 + (x.1.2.length : Int)).toNat (x.1.1 + (x.1.2.length : Int)).toNat]) (Keep (RdC_rows l (n : Int) g1 g2 v)) (fun ys => ys.map (·.1) = chunksI l n) (chunksI l n).length w := by
  intro lp J W0 hW hJd hY h0
  have hrd0 : RdC_rows l (n : Int) g1 g2 v W0 := hrd.below hW
  refine callsIn_wide.2 ?_
  show Calls Try.prog 74 [Value.func (.yield lp) #[] #[], bp g1, bp g2].toArray W0 _
  refine calls_W (n := 31) Try.func74 rfl rfl rfl ?_
  refine W_seq ?_
  refine W_reg (by kernel_rfl) ?_
  refine wla rfl rfl (q_assign (v := i64 0) rfl rfl) ?_
  refine wl_nil ?_
  refine W_th ?_
  refine W_block ?_
  refine W_loopG (fun k f w => f 31 = undef ∧ f 0 = .func (.yield lp) #[] #[] ∧ f 1 = bp g1 ∧ f 2 = bp g2 ∧ k ≤ (chunksI l n).length ∧ f 4 = i64 ((((chunksI l n).length - k) * n : Nat) : Int) ∧ (∃ ys : List (ChEl l n), ys.map (·.1) = (chunksI l n).take ((chunksI l n).length - k) ∧ J ys w) ∧ RdC_rows l (n : Int) g1 g2 v w) (chunksI l n).length ?_ ?_
  · exact ⟨rfl, rfl, rfl, rfl, Nat.le_refl _, by rw [Nat.sub_self, Nat.zero_mul]; rfl, ⟨[], by simp, h0⟩, hrd0⟩
  · rintro k f w1 ⟨hm, s0, s1, s2, hk, s4, ⟨ys, hys, hJ⟩, hrd1⟩
    obtain ⟨hB1, hB2, hl1⟩ := hrd1
    generalize hj : (chunksI l n).length - k = j at *
    refine W_seq ?_
    refine W_seq ?_
    refine W_reg (by kernel_rfl) ?_
    refine wla rfl rfl (q_move (v := i64 ((j * n : Nat) : Int)) rfl s4) ?_
    refine wlq rfl rfl (q_loadB (u := v) rfl Try.isAgg61 s1 hB1 rfl) ?_
    refine wla rfl rfl (q_len rfl T61.sl rfl hl1) ?_
    refine wla rfl rfl (q_ltI rfl rfl rfl) ?_
    refine wl_nil ?_
    refine W_th ?_
    refine W_cond _ rfl rfl (fun hb => ?_) (fun hb => ?_)
    · have hlt : j * n < l.length := by have := of_decide_eq_true hb; omega
      have hjk : j < (chunksI l n).length := (chunksI_lt hn).2 hlt
      have e1 := chunksI_at hn hlt
      have e2 := chunksI_sub (n := n) hlt
      generalize hc : (l.drop (j * n)).take n = c at *
      have hcl : c.length = min n (l.length - j * n) := by rw [← hc]; simp
      refine W_skip ?_
      refine W_th ?_
      refine W_seq ?_
      refine W_block ?_
      refine W_seq ?_
      refine W_draw [0, 1] [(0, 1), (1, 1), (2, 0), (3, 0), (4, 0), (5, 0), (6, 0)] mixed (by kernel_rfl) (by kernel_rfl) (by kernel_rfl) (by kernel_rfl) ?_
      have xd := Ext.drew w1
      have hJ2 := hJd ys w1 hJ
      have hrd2 : RdC_rows l (n : Int) g1 g2 v (World.drew w1) := RdC_rows.ext xd ⟨hB1, hB2, hl1⟩
      generalize World.drew w1 = w2 at *
      obtain ⟨hB1', hB2', hl2⟩ := hrd2
      refine wsq rfl rfl rfl (q_loadB (u := i64 (n : Int)) rfl Try.isAgg3 s2 hB2' rfl) ?_
      refine wsq rfl rfl rfl (q_loadB (u := v) rfl Try.isAgg61 s1 hB1' rfl) ?_
      refine wsa rfl rfl rfl (q_move (v := i64 ((j * n : Nat) : Int)) rfl s4) ?_
      have hsub : subL l ((j * n : Nat) : Int) (l.length : Int) = some (l.drop (j * n)) := by
        refine subL_some.2 ⟨by omega, ?_⟩
        rw [Int.toNat_natCast, Int.toNat_natCast, List.take_of_length_le (Nat.le_refl _)]
      refine wsa rfl rfl rfl (q_slice (a := ((j * n : Nat) : Int)) (b := (l.length : Int)) rfl T61 rfl hl2 rfl rfl hsub) ?_
      refine wsa rfl rfl rfl (q_len rfl T61.sl rfl (SlK.cut hl2 hsub)) ?_
      have hmin : (if ((l.drop (j * n)).length : Int) < (n : Int) then ((l.drop (j * n)).length : Int) else (n : Int)) = (c.length : Int) := by
        rw [hcl, List.length_drop]; split <;> omega
      refine wsa rfl rfl rfl (q_minI (a := (n : Int)) (b := ((l.drop (j * n)).length : Int)) rfl rfl rfl) ?_
      rw [hmin]
      refine wsa rfl rfl rfl (q_assign (v := i64 (c.length : Int)) rfl rfl) ?_
      refine ws_nil ?_
      refine W_th ?_
      refine W_seq ?_
      refine W_reg (by kernel_rfl) ?_
      have hadd : wI (((j * n : Nat) : Int) + (c.length : Int)) = ((j * n : Nat) : Int) + (c.length : Int) := wI_of (by omega) (by omega)
      refine wla rfl rfl (q_move (v := .func (.yield lp) #[] #[]) rfl s0) ?_
      refine wlq rfl rfl (q_loadB (u := v) rfl Try.isAgg61 s1 hB1' rfl) ?_
      refine wla rfl rfl (q_move (v := i64 ((j * n : Nat) : Int)) rfl s4) ?_
      refine wla rfl rfl (q_move (v := i64 ((j * n : Nat) : Int)) rfl s4) ?_
      refine wla rfl rfl (q_move (v := i64 (c.length : Int)) rfl rfl) ?_
      refine wla rfl rfl (q_addI (a := ((j * n : Nat) : Int)) (b := (c.length : Int)) rfl rfl rfl) ?_
      refine wla rfl rfl (q_move (v := i64 ((j * n : Nat) : Int)) rfl s4) ?_
      refine wla rfl rfl (q_move (v := i64 (c.length : Int)) rfl rfl) ?_
      refine wla rfl rfl (q_addI (a := ((j * n : Nat) : Int)) (b := (c.length : Int)) rfl rfl rfl) ?_
      rw [hadd]
      refine wla rfl rfl (q_slice3 (a := ((j * n : Nat) : Int)) (b := ((j * n : Nat) : Int) + (c.length : Int)) (c := ((j * n : Nat) : Int) + (c.length : Int)) rfl T61 rfl hl2 rfl rfl rfl e2) ?_
      have hyl : ys.length < (chunksI l n).length := by
        have := congrArg List.length hys
        rw [List.length_map, List.length_take] at this
        omega
      obtain ⟨fn, tmps, assign, body, hy, hR⟩ := hY ys ⟨(((j * n : Nat) : Int), c), e2, List.mem_of_getElem? e1⟩ w2 hJ2 hyl
      refine wl_yield rfl (run_yieldcall1 rfl rfl rfl hy) (hR.mono ?_)
      rintro e w3 ⟨rfl, hJ3, hk3⟩
      refine ⟨_, rfl, ?_⟩
      refine wla rfl rfl (q_not (b := true) rfl rfl) ?_
      refine wl_nil ?_
      refine W_th ?_
      refine W_cond false rfl rfl (fun h => by cases h) (fun _ => ?_)
      refine W_skip ?_
      refine bk_n ?_
      refine W_th ?_
      refine W_reg (by kernel_rfl) ?_
      have hrd3 : RdC_rows l (n : Int) g1 g2 v w3 := hk3.2 ⟨hB1', hB2', hl2⟩
      refine wla rfl rfl (q_move (v := i64 ((j * n : Nat) : Int)) rfl s4) ?_
      refine wlq rfl rfl (q_loadB (u := i64 (n : Int)) rfl Try.isAgg3 s2 hrd3.2.1 rfl) ?_
      refine wla rfl rfl (q_addI (a := ((j * n : Nat) : Int)) (b := (n : Int)) rfl rfl rfl) ?_
      have e3 : wI (((j * n : Nat) : Int) + (n : Int)) = (((j + 1) * n : Nat) : Int) := by
        rw [wI_of (by omega) (by omega), Nat.succ_mul]; omega
      rw [e3]
      refine wla rfl rfl (q_assign (v := i64 (((j + 1) * n : Nat) : Int)) rfl rfl) ?_
      refine wl_nil ?_
      refine ⟨k - 1, by omega, hm, s0, s1, s2, by omega, ?_, ⟨_, ?_, hJ3⟩, hrd3⟩
      · rw [show (chunksI l n).length - (k - 1) = j + 1 by omega]; rfl
      · rw [show (chunksI l n).length - (k - 1) = j + 1 by omega, List.take_add_one, e1, List.map_append, hys]; rfl
    · have hge : ¬ j * n < l.length := by have := of_decide_eq_false hb; omega
      have hjk : ¬ j < (chunksI l n).length := fun h => hge ((chunksI_lt hn).1 h)
      refine W_exit ?_
      refine th_x ?_
      refine th_x ?_
      refine bk_x ?_
      refine rtn (rt0 rfl hm ?_)
      refine ⟨⟨_, rfl⟩, ys, ?_, hJ⟩
      show ys.map (·.1) = chunksI l n
      rw [hys]
      exact List.take_of_length_le (by omega)
end Gk
