/- slices.IndexFunc and slices.ContainsFunc, with a function that has captured what it looks at. No condition but the length. -/
import Derived.Test.YtabcmfkmddlaaaaS
import Derived.Test.YtabcmfkmddlaaaaGm
set_option linter.unusedVariables false
set_option linter.unusedSimpArgs false
namespace Gk
open Go Go.Proofs

/-- The place of the first that passes, counted from i; -1: none. -/
def findAt {α : Type} (t : α → Option Bool) : Int → List α → Option Int
  | _, [] => some (-1)
  | i, x :: xs => (t x).bind fun b => if b = true then some i else findAt t (i + 1) xs
/-- Does one pass? -/
def anyO {α : Type} (t : α → Option Bool) : List α → Option Bool
  | [] => some false
  | x :: xs => (t x).bind fun b => if b = true then some true else anyO t xs
theorem anyO_find {α : Type} (t : α → Option Bool) : ∀ (l : List α) {i : Int} (hi : 0 ≤ i) {r : Bool}, anyO t l = some r → ∃ j, findAt t i l = some j ∧ decide (0 ≤ j) = r
  | [], i, _, r, h => ⟨-1, rfl, by simpa [anyO] using h⟩
  | x :: xs, i, hi, r, h => by
    unfold anyO at h
    obtain ⟨b, hb, h⟩ := Option.bind_eq_some_iff.1 h
    cases b with
    | true => exact ⟨i, by unfold findAt; rw [hb]; rfl, by simpa [hi] using h⟩
    | false =>
      obtain ⟨j, h1, h2⟩ := anyO_find t xs (i := i + 1) (by omega) (by simpa using h)
      exact ⟨j, by unfold findAt; rw [hb]; simpa using h1, h2⟩
section
variable {P : Program} {o : Oper} {f : Nat → Value} {w : World}
theorem stp_callF {g : FuncId} {fn : Func} {y : Operand} {xs : Array Operand} {ats : Array TypeId} {vs lb : List Value} {R' : Ending → World → Prop} (hf : P.funcs[g]? = some fn) (hn : (fn.name == "runtime.NumGoroutine") = false) (hb : fn.body.isNone = false)
    (ho : o.op = .call ⟨.value y, xs, ats⟩) (hy : ev f y = .func (.func g) #[] lb.toArray) (hx : xs.toList.map (ev f) = vs) (hc : Calls P g (vs ++ lb).toArray w R') {K : Value → World → Prop} (hk : ∀ e w', R' e w' → ∃ v, e = .returned v ∧ K v w') : Stp P o f w K := by
  have hxs : xs.map (ev f) = vs.toArray := by subst hx; apply Array.ext'; simp
  unfold Stp
  have : (execOp (ev f) o).run P w = .ok (.enter g (vs ++ lb).toArray) w := by
    have h1 := enters (P := P) hf hn hb (vs ++ lb).toArray w
    unfold execOp
    rw [ho]
    dsimp only
    simp only [resolve, hy, Deferred.ofValue, hxs, Sem.run_bind, Sem.run_pure, Result.andThen_ok, invoke]
    simpa using h1
  rw [this]
  exact hc.mono hk
end
set_option maxRecDepth 100000 in
/-- slices.IndexFunc over [][]byte. -/
theorem IndexFunc_rows_calls (v : Value) (l : List (List UInt8)) (gf : Nat) (fn : Func) (hf : Try.prog.funcs[gf]? = some fn) (hn : (fn.name == "runtime.NumGoroutine") = false) (hb : fn.body.isNone = false) (lb : List Value) (t : List UInt8 → Option Bool) (r : Int) (w0 : World) (hl : Rw w0 [] v l) (hlen : l.length < 9223372036854775808) (H : findAt t 0 l = some r)
    (hcl : ∀ x ∈ l, ∀ (b : Bool) (w' : World), Ext w0 w' → t x = some b → ∀ u, By w' [] u x → Calls Try.prog gf ([u] ++ lb).toArray w' (fun e w'' => e = .returned (.bool b) ∧ Ext w' w'')) :
    Calls Try.prog 69 [v, .func (.func gf) #[] lb.toArray].toArray w0 (fun e w' => e = .returned (i64 r) ∧ Ext w0 w') := by
  have hE : Ext w0 w0 := Ext.refl w0
  refine calls_W (n := 19) Try.func69 rfl rfl rfl ?_
  refine W_seq ?_
  refine W_reg (by kernel_rfl) ?_
  refine wla rfl rfl (q_assign (v := i64 0) rfl rfl) ?_
  refine wl_nil ?_
  refine W_th ?_
  refine W_seq ?_
  refine W_mid (fun f w => f 19 = undef ∧ r = -1 ∧ Ext w0 w) ?_ ?_
  · refine W_seq ?_
    refine W_reg (by kernel_rfl) ?_
    refine wla rfl rfl (q_move (v := v) rfl rfl) ?_
    refine wla rfl rfl (q_len rfl T23.sl rfl hl) ?_
    refine wla rfl rfl (q_move (v := i64 0) rfl rfl) ?_
    refine wl_nil ?_
    refine W_th ?_
    refine W_block ?_
    refine W_loopG (fun k f w => f 19 = undef ∧ f 0 = v ∧ f 1 = .func (.func gf) #[] lb.toArray ∧ f 6 = v ∧ f 7 = i64 (l.length : Int) ∧ f 8 = i64 ((l.length - k : Nat) : Int) ∧ k ≤ l.length ∧ findAt t ((l.length - k : Nat) : Int) (l.drop (l.length - k)) = some r ∧ Ext w0 w) l.length ?_ ?_
    · exact ⟨rfl, rfl, rfl, rfl, rfl, by rw [Nat.sub_self]; rfl, Nat.le_refl _, by rw [Nat.sub_self]; exact H, hE⟩
    · rintro k f w ⟨hm, s0, s1, s6, s7, s8, hk, hfa, e1⟩
      refine W_seq ?_
      refine W_reg (by kernel_rfl) ?_
      refine wla rfl rfl (q_ltI rfl s8 s7) ?_
      refine wl_nil ?_
      refine W_th ?_
      refine W_seq ?_
      refine W_cond _ rfl rfl (fun hbb => ?_) (fun hbb => ?_)
      · have hk1 : l.length - k < l.length := by have := of_decide_eq_true hbb; omega
        have hget : l[l.length - k]? = some l[l.length - k] := by simp [hk1]
        have hidx : idx l ((l.length - k : Nat) : Int) = some l[l.length - k] := by simp [idx, hk1]
        have hdrop : l.drop (l.length - k) = l[l.length - k] :: l.drop (l.length - k + 1) := List.drop_eq_getElem_cons hk1
        rw [hdrop] at hfa
        unfold findAt at hfa
        obtain ⟨b, hb1, hfa⟩ := Option.bind_eq_some_iff.1 hfa
        refine W_skip ?_
        refine W_th ?_
        refine W_seq ?_
        refine W_block ?_
        refine W_seq ?_
        refine W_reg (by kernel_rfl) ?_
        refine wla rfl rfl (q_move (v := i64 ((l.length - k : Nat) : Int)) rfl s8) ?_
        refine wla rfl rfl (q_assign (v := i64 ((l.length - k : Nat) : Int)) rfl rfl) ?_
        refine wl_nil ?_
        refine W_th ?_
        refine W_seq ?_
        refine W_reg (by kernel_rfl) ?_
        refine wla rfl rfl (q_move (v := .func (.func gf) #[] lb.toArray) rfl s1) ?_
        refine wla rfl rfl (q_move (v := v) rfl s0) ?_
        refine wla rfl rfl (q_move (v := i64 ((l.length - k : Nat) : Int)) rfl rfl) ?_
        refine wla rfl rfl (q_adr rfl T23 rfl rfl hl hidx) ?_
        refine wlq_load rfl rfl rfl T23 rfl hl hidx e1 (fun u hu => ?_)
        refine wls rfl rfl (stp_callF (vs := [u]) hf hn hb rfl rfl (ar1 rfl) (hcl _ (List.getElem_mem hk1) b _ e1 hb1 u (hu.lift (Lift.ext e1 _))) ?_)
        rintro _ w2 ⟨rfl, x2⟩
        refine ⟨_, rfl, ?_⟩
        have e2 := e1.trans x2
        refine wl_nil ?_
        refine W_th ?_
        refine W_cond b rfl rfl (fun hbt => ?_) (fun hbf => ?_)
        · rw [hbt, if_pos rfl] at hfa
          obtain rfl := Option.some.inj hfa
          refine W_seq ?_
          refine W_reg (by kernel_rfl) ?_
          refine wla rfl rfl (q_move (v := i64 ((l.length - k : Nat) : Int)) rfl rfl) ?_
          refine wla rfl rfl (q_assign (v := i64 ((l.length - k : Nat) : Int)) rfl rfl) ?_
          refine wl_nil ?_
          refine W_th ?_
          refine W_ret ?_
          refine bk_r ?_
          refine th_r ?_
          refine th_r ?_
          refine bk_r ?_
          refine th_r ?_
          refine rt1 _ rfl rfl rfl hm ?_
          exact ⟨rfl, e2⟩
        · rw [hbf, if_neg (by decide)] at hfa
          refine W_skip ?_
          refine bk_n ?_
          refine W_th ?_
          refine W_reg (by kernel_rfl) ?_
          refine wla rfl rfl (q_addI rfl s8 rfl) ?_
          have en : wI (((l.length - k : Nat) : Int) + 1) = ((l.length - (k - 1) : Nat) : Int) := by rw [wI_of (by omega) (by omega)]; omega
          rw [en]
          refine wla rfl rfl (q_move (v := i64 ((l.length - (k - 1) : Nat) : Int)) rfl rfl) ?_
          refine wl_nil ?_
          refine ⟨k - 1, by omega, hm, s0, s1, s6, s7, rfl, by omega, ?_, e2⟩
          rw [show l.length - (k - 1) = l.length - k + 1 by omega]
          rw [show ((l.length - k : Nat) : Int) + 1 = ((l.length - k + 1 : Nat) : Int) by omega] at hfa
          exact hfa
      · have hk0 : k = 0 := by have := of_decide_eq_false hbb; omega
        subst hk0
        rw [Nat.sub_zero, List.drop_length] at hfa
        have hr : (-1 : Int) = r := Option.some.inj hfa
        refine W_exit ?_
        refine th_x ?_
        refine th_x ?_
        refine bk_x ?_
        exact ⟨hm, hr.symm, e1⟩
  · rintro f w ⟨hm, hr, e1⟩
    subst hr
    refine W_th ?_
    refine W_seq ?_
    refine W_reg (by kernel_rfl) ?_
    refine wla rfl rfl (q_assign (v := i64 (-1)) rfl rfl) ?_
    refine wl_nil ?_
    refine W_th ?_
    refine W_ret ?_
    refine rt1 (i64 (-1)) rfl rfl rfl hm ?_
    exact ⟨rfl, e1⟩
set_option maxRecDepth 100000 in
/-- slices.ContainsFunc over [][]byte. -/
theorem ContainsFunc_rows_calls (v : Value) (l : List (List UInt8)) (gf : Nat) (fn : Func) (hf : Try.prog.funcs[gf]? = some fn) (hn : (fn.name == "runtime.NumGoroutine") = false) (hb : fn.body.isNone = false) (lb : List Value) (t : List UInt8 → Option Bool) (r : Bool) (w0 : World) (hl : Rw w0 [] v l) (hlen : l.length < 9223372036854775808) (H : anyO t l = some r)
    (hcl : ∀ x ∈ l, ∀ (b : Bool) (w' : World), Ext w0 w' → t x = some b → ∀ u, By w' [] u x → Calls Try.prog gf ([u] ++ lb).toArray w' (fun e w'' => e = .returned (.bool b) ∧ Ext w' w'')) :
    Calls Try.prog 62 [v, .func (.func gf) #[] lb.toArray].toArray w0 (fun e w' => e = .returned (.bool r) ∧ Ext w0 w') := by
  obtain ⟨j, h1, h2⟩ := anyO_find (i := 0) t l (by decide) H
  refine calls_W (n := 9) Try.func62 rfl rfl rfl ?_
  refine W_seq ?_
  refine W_reg (by kernel_rfl) ?_
  refine wla rfl rfl (q_assign (v := .bool false) rfl rfl) ?_
  refine wl_nil ?_
  refine W_th ?_
  refine W_seq ?_
  refine W_reg (by kernel_rfl) ?_
  refine wla rfl rfl (q_move (v := v) rfl rfl) ?_
  refine wla rfl rfl (q_move (v := .func (.func gf) #[] lb.toArray) rfl rfl) ?_
  refine wls rfl rfl (stp_call (vs := [v, .func (.func gf) #[] lb.toArray]) Try.func69 rfl rfl rfl (ar2 rfl rfl) (IndexFunc_rows_calls v l gf fn hf hn hb lb t j _ hl hlen h1 hcl) ?_)
  rintro _ w2 ⟨rfl, x2⟩
  refine ⟨_, rfl, ?_⟩
  refine wla rfl rfl (q_geI rfl rfl rfl) ?_
  refine wla rfl rfl (q_assign (v := .bool (decide (0 ≤ j))) rfl rfl) ?_
  refine wl_nil ?_
  refine W_th ?_
  refine W_ret ?_
  refine rt1 _ rfl rfl rfl rfl ?_
  rw [h2]
  exact ⟨rfl, x2⟩
end Gk
