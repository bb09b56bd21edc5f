/- Parts Ff, F8, F4, L8a, Gn, Go, Gp, Fh, GmI, GmJ, one behind the other. What is proved: said at the head of each part. No condition beside those said there. -/
import Derived.Test.YtpakbhiabgcglaaRows
import Derived.Orders
import Derived.Deep.Draws
import Derived.Laws.World
import Derived.KernelRfl
import Derived.OrdersIn
import Derived.TacticsIn
import Derived.RangeFuncCalls
import Derived.Deep.LoopGhost
import Derived.Tactics
import Derived.Sort.LoopGhostIn
import Derived.RangeFuncLeaves
import Derived.RangeFuncNested
import Derived.RangeFuncRecord
import Derived.Laws.Sem
import Derived.OwnWalk
import Derived.RangeFuncWrites
import Derived.Laws.IdiomCopy
import Derived.WalkKit
import Derived.ProofKit
import Derived.OpenShut
import Derived.ChangeOld
import Derived.Below
import Derived.Test.YtpakbhiabgcglaaProg
import Derived.MapKept
import Derived.Lib.AppendZerosOnto
import Derived.Test.YtpakbhiabgcglaaZPSyndromeTells1
import Derived.Test.YtpakbhiabgcglaaZPSyndromeTells2
/- slices.IndexFunc and slices.ContainsFunc, with a function that has captured what it looks at. No condition but the length. -/


set_option linter.unusedVariables false
set_option linter.unusedSimpArgs false
namespace Gk
open Go Go.Proofs

/-- The place of the first that passes, counted from i; -1: none. -/
def findAt {α : Type} (t : α → Option Bool) : Int → List α → Option Int
  | _, [] => some (-1)
  | i, x :: xs => (t x).bind fun b => if b = true then some i else findAt t (i + 1) xs
/-- Does one pass? -/
def anyO {α : Type} (t : α → Option Bool) : List α → Option Bool
  | [] => some false
  | x :: xs => (t x).bind fun b => if b = true then some true else anyO t xs
theorem anyO_find {α : Type} (t : α → Option Bool) : ∀ (l : List α) {i : Int} (hi : 0 ≤ i) {r : Bool}, anyO t l = some r → ∃ j, findAt t i l = some j ∧ decide (0 ≤ j) = r
  | [], i, _, r, h => ⟨-1, rfl, by simpa [anyO] using h⟩
  | x :: xs, i, hi, r, h => by
    unfold anyO at h
    obtain ⟨b, hb, h⟩ := Option.bind_eq_some_iff.1 h
    cases b with
    | true => exact ⟨i, by unfold findAt; rw [hb]; rfl, by simpa [hi] using h⟩
    | false =>
      obtain ⟨j, h1, h2⟩ := anyO_find t xs (i := i + 1) (by omega) (by simpa using h)
      exact ⟨j, by unfold findAt; rw [hb]; simpa using h1, h2⟩
section
variable {P : Program} {o : Oper} {f : Nat → Value} {w : World}
theorem stp_callF {g : FuncId} {fn : Func} {y : Operand} {xs : Array Operand} {ats : Array TypeId} {vs lb : List Value} {R' : Ending → World → Prop} (hf : P.funcs[g]? = some fn) (hn : (fn.name == "runtime.NumGoroutine") = false) (hb : fn.body.isNone = false)
    (ho : o.op = .call ⟨.value y, xs, ats⟩) (hy : ev f y = .func (.func g) #[] lb.toArray) (hx : xs.toList.map (ev f) = vs) (hc : Calls P g (vs ++ lb).toArray w R') {K : Value → World → Prop} (hk : ∀ e w', R' e w' → ∃ v, e = .returned v ∧ K v w') : Stp P o f w K := by
  have hxs : xs.map (ev f) = vs.toArray := by subst hx; apply Array.ext'; simp
  unfold Stp
  have : (execOp (ev f) o).run P w = .ok (.enter g (vs ++ lb).toArray) w := by
    have h1 := enters (P := P) hf hn hb (vs ++ lb).toArray w
    unfold execOp
    rw [ho]
    dsimp only
    simp only [resolve, hy, Deferred.ofValue, hxs, Sem.run_bind, Sem.run_pure, Result.andThen_ok, invoke]
    simpa using h1
  rw [this]
  exact hc.mono hk
end
set_option maxRecDepth 100000 in
/-- slices.IndexFunc over [][]byte. -/
theorem IndexFunc_rows_calls (v : Value) (l : List (List UInt8)) (gf : Nat) (fn : Func) (hf : Try.prog.funcs[gf]? = some fn) (hn : (fn.name == "runtime.NumGoroutine") = false) (hb : fn.body.isNone = false) (lb : List Value) (t : List UInt8 → Option Bool) (r : Int) (w0 : World) (hl : Rw w0 [] v l) (hlen : l.length < 9223372036854775808) (H : findAt t 0 l = some r)
    (hcl : ∀ x ∈ l, ∀ (b : Bool) (w' : World), Ext w0 w' → t x = some b → ∀ u, By w' [] u x → Calls Try.prog gf ([u] ++ lb).toArray w' (fun e w'' => e = .returned (.bool b) ∧ Ext w' w'')) :
    Calls Try.prog 76 [v, .func (.func gf) #[] lb.toArray].toArray w0 (fun e w' => e = .returned (i64 r) ∧ Ext w0 w') := by
  have hE : Ext w0 w0 := Ext.refl w0
  refine calls_W (n := 19) Try.func76 rfl rfl rfl ?_
  refine W_seq ?_
  refine W_reg (by kernel_rfl) ?_
  refine wla rfl rfl (q_assign (v := i64 0) rfl rfl) ?_
  refine wl_nil ?_
  refine W_th ?_
  refine W_seq ?_
  refine W_mid (fun f w => f 19 = undef ∧ r = -1 ∧ Ext w0 w) ?_ ?_
  · refine W_seq ?_
    refine W_reg (by kernel_rfl) ?_
    refine wla rfl rfl (q_move (v := v) rfl rfl) ?_
    refine wla rfl rfl (q_len rfl T40.sl rfl hl) ?_
    refine wla rfl rfl (q_move (v := i64 0) rfl rfl) ?_
    refine wl_nil ?_
    refine W_th ?_
    refine W_block ?_
    refine W_loopG (fun k f w => f 19 = undef ∧ f 0 = v ∧ f 1 = .func (.func gf) #[] lb.toArray ∧ f 6 = v ∧ f 7 = i64 (l.length : Int) ∧ f 8 = i64 ((l.length - k : Nat) : Int) ∧ k ≤ l.length ∧ findAt t ((l.length - k : Nat) : Int) (l.drop (l.length - k)) = some r ∧ Ext w0 w) l.length ?_ ?_
    · exact ⟨rfl, rfl, rfl, rfl, rfl, by rw [Nat.sub_self]; rfl, Nat.le_refl _, by rw [Nat.sub_self]; exact H, hE⟩
    · rintro k f w ⟨hm, s0, s1, s6, s7, s8, hk, hfa, e1⟩
      refine W_seq ?_
      refine W_reg (by kernel_rfl) ?_
      refine wla rfl rfl (q_ltI rfl s8 s7) ?_
      refine wl_nil ?_
      refine W_th ?_
      refine W_seq ?_
      refine W_cond _ rfl rfl (fun hbb => ?_) (fun hbb => ?_)
      · have hk1 : l.length - k < l.length := by have := of_decide_eq_true hbb; omega
        have hget : l[l.length - k]? = some l[l.length - k] := by simp [hk1]
        have hidx : idx l ((l.length - k : Nat) : Int) = some l[l.length - k] := by simp [idx, hk1]
        have hdrop : l.drop (l.length - k) = l[l.length - k] :: l.drop (l.length - k + 1) := List.drop_eq_getElem_cons hk1
        rw [hdrop] at hfa
        unfold findAt at hfa
        obtain ⟨b, hb1, hfa⟩ := Option.bind_eq_some_iff.1 hfa
        refine W_skip ?_
        refine W_th ?_
        refine W_seq ?_
        refine W_block ?_
        refine W_seq ?_
        refine W_reg (by kernel_rfl) ?_
        refine wla rfl rfl (q_move (v := i64 ((l.length - k : Nat) : Int)) rfl s8) ?_
        refine wla rfl rfl (q_assign (v := i64 ((l.length - k : Nat) : Int)) rfl rfl) ?_
        refine wl_nil ?_
        refine W_th ?_
        refine W_seq ?_
        refine W_reg (by kernel_rfl) ?_
        refine wla rfl rfl (q_move (v := .func (.func gf) #[] lb.toArray) rfl s1) ?_
        refine wla rfl rfl (q_move (v := v) rfl s0) ?_
        refine wla rfl rfl (q_move (v := i64 ((l.length - k : Nat) : Int)) rfl rfl) ?_
        refine wla rfl rfl (q_adr rfl T40 rfl rfl hl hidx) ?_
        refine wlq_load rfl rfl rfl T40 rfl hl hidx e1 (fun u hu => ?_)
        refine wls rfl rfl (stp_callF (vs := [u]) hf hn hb rfl rfl (ar1 rfl) (hcl _ (List.getElem_mem hk1) b _ e1 hb1 u (hu.lift (Lift.ext e1 _))) ?_)
        rintro _ w2 ⟨rfl, x2⟩
        refine ⟨_, rfl, ?_⟩
        have e2 := e1.trans x2
        refine wl_nil ?_
        refine W_th ?_
        refine W_cond b rfl rfl (fun hbt => ?_) (fun hbf => ?_)
        · rw [hbt, if_pos rfl] at hfa
          obtain rfl := Option.some.inj hfa
          refine W_seq ?_
          refine W_reg (by kernel_rfl) ?_
          refine wla rfl rfl (q_move (v := i64 ((l.length - k : Nat) : Int)) rfl rfl) ?_
          refine wla rfl rfl (q_assign (v := i64 ((l.length - k : Nat) : Int)) rfl rfl) ?_
          refine wl_nil ?_
          refine W_th ?_
          refine W_ret ?_
          refine bk_r ?_
          refine th_r ?_
          refine th_r ?_
          refine bk_r ?_
          refine th_r ?_
          refine rt1 _ rfl rfl rfl hm ?_
          exact ⟨rfl, e2⟩
        · rw [hbf, if_neg (by decide)] at hfa
          refine W_skip ?_
          refine bk_n ?_
          refine W_th ?_
          refine W_reg (by kernel_rfl) ?_
          refine wla rfl rfl (q_addI rfl s8 rfl) ?_
          have en : wI (((l.length - k : Nat) : Int) + 1) = ((l.length - (k - 1) : Nat) : Int) := by rw [wI_of (by omega) (by omega)]; omega
          rw [en]
          refine wla rfl rfl (q_move (v := i64 ((l.length - (k - 1) : Nat) : Int)) rfl rfl) ?_
          refine wl_nil ?_
          refine ⟨k - 1, by omega, hm, s0, s1, s6, s7, rfl, by omega, ?_, e2⟩
          rw [show l.length - (k - 1) = l.length - k + 1 by omega]
          rw [show ((l.length - k : Nat) : Int) + 1 = ((l.length - k + 1 : Nat) : Int) by omega] at hfa
          exact hfa
      · have hk0 : k = 0 := by have := of_decide_eq_false hbb; omega
        subst hk0
        rw [Nat.sub_zero, List.drop_length] at hfa
        have hr : (-1 : Int) = r := Option.some.inj hfa
        refine W_exit ?_
        refine th_x ?_
        refine th_x ?_
        refine bk_x ?_
        exact ⟨hm, hr.symm, e1⟩
  · rintro f w ⟨hm, hr, e1⟩
    subst hr
    refine W_th ?_
    refine W_seq ?_
    refine W_reg (by kernel_rfl) ?_
    refine wla rfl rfl (q_assign (v := i64 (-1)) rfl rfl) ?_
    refine wl_nil ?_
    refine W_th ?_
    refine W_ret ?_
    refine rt1 (i64 (-1)) rfl rfl rfl hm ?_
    exact ⟨rfl, e1⟩
set_option maxRecDepth 100000 in
/-- slices.ContainsFunc over [][]byte. -/
theorem ContainsFunc_rows_calls (v : Value) (l : List (List UInt8)) (gf : Nat) (fn : Func) (hf : Try.prog.funcs[gf]? = some fn) (hn : (fn.name == "runtime.NumGoroutine") = false) (hb : fn.body.isNone = false) (lb : List Value) (t : List UInt8 → Option Bool) (r : Bool) (w0 : World) (hl : Rw w0 [] v l) (hlen : l.length < 9223372036854775808) (H : anyO t l = some r)
    (hcl : ∀ x ∈ l, ∀ (b : Bool) (w' : World), Ext w0 w' → t x = some b → ∀ u, By w' [] u x → Calls Try.prog gf ([u] ++ lb).toArray w' (fun e w'' => e = .returned (.bool b) ∧ Ext w' w'')) :
    Calls Try.prog 44 [v, .func (.func gf) #[] lb.toArray].toArray w0 (fun e w' => e = .returned (.bool r) ∧ Ext w0 w') := by
  obtain ⟨j, h1, h2⟩ := anyO_find (i := 0) t l (by decide) H
  refine calls_W (n := 9) Try.func44 rfl rfl rfl ?_
  refine W_seq ?_
  refine W_reg (by kernel_rfl) ?_
  refine wla rfl rfl (q_assign (v := .bool false) rfl rfl) ?_
  refine wl_nil ?_
  refine W_th ?_
  refine W_seq ?_
  refine W_reg (by kernel_rfl) ?_
  refine wla rfl rfl (q_move (v := v) rfl rfl) ?_
  refine wla rfl rfl (q_move (v := .func (.func gf) #[] lb.toArray) rfl rfl) ?_
  refine wls rfl rfl (stp_call (vs := [v, .func (.func gf) #[] lb.toArray]) Try.func76 rfl rfl rfl (ar2 rfl rfl) (IndexFunc_rows_calls v l gf fn hf hn hb lb t j _ hl hlen h1 hcl) ?_)
  rintro _ w2 ⟨rfl, x2⟩
  refine ⟨_, rfl, ?_⟩
  refine wla rfl rfl (q_geI rfl rfl rfl) ?_
  refine wla rfl rfl (q_assign (v := .bool (decide (0 ≤ j))) rfl rfl) ?_
  refine wl_nil ?_
  refine W_th ?_
  refine W_ret ?_
  refine rt1 _ rfl rfl rfl rfl ?_
  rw [h2]
  exact ⟨rfl, x2⟩
set_option maxRecDepth 100000 in
/-- slices.IndexFunc over []int. -/
theorem IndexFunc_ints_calls (v : Value) (l : List (Int)) (gf : Nat) (fn : Func) (hf : Try.prog.funcs[gf]? = some fn) (hn : (fn.name == "runtime.NumGoroutine") = false) (hb : fn.body.isNone = false) (lb : List Value) (t : Int → Option Bool) (r : Int) (w0 : World) (hl : In w0 [] v l) (hlen : l.length < 9223372036854775808) (H : findAt t 0 l = some r)
    (hcl : ∀ x ∈ l, ∀ (b : Bool) (w' : World), Ext w0 w' → t x = some b → Calls Try.prog gf ([i64 x] ++ lb).toArray w' (fun e w'' => e = .returned (.bool b) ∧ Ext w' w'')) :
    Calls Try.prog 81 [v, .func (.func gf) #[] lb.toArray].toArray w0 (fun e w' => e = .returned (i64 r) ∧ Ext w0 w') := by
  have hE : Ext w0 w0 := Ext.refl w0
  refine calls_W (n := 19) Try.func81 rfl rfl rfl ?_
  refine W_seq ?_
  refine W_reg (by kernel_rfl) ?_
  refine wla rfl rfl (q_assign (v := i64 0) rfl rfl) ?_
  refine wl_nil ?_
  refine W_th ?_
  refine W_seq ?_
  refine W_mid (fun f w => f 19 = undef ∧ r = -1 ∧ Ext w0 w) ?_ ?_
  · refine W_seq ?_
    refine W_reg (by kernel_rfl) ?_
    refine wla rfl rfl (q_move (v := v) rfl rfl) ?_
    refine wla rfl rfl (q_len rfl T47.sl rfl hl) ?_
    refine wla rfl rfl (q_move (v := i64 0) rfl rfl) ?_
    refine wl_nil ?_
    refine W_th ?_
    refine W_block ?_
    refine W_loopG (fun k f w => f 19 = undef ∧ f 0 = v ∧ f 1 = .func (.func gf) #[] lb.toArray ∧ f 6 = v ∧ f 7 = i64 (l.length : Int) ∧ f 8 = i64 ((l.length - k : Nat) : Int) ∧ k ≤ l.length ∧ findAt t ((l.length - k : Nat) : Int) (l.drop (l.length - k)) = some r ∧ Ext w0 w) l.length ?_ ?_
    · exact ⟨rfl, rfl, rfl, rfl, rfl, by rw [Nat.sub_self]; rfl, Nat.le_refl _, by rw [Nat.sub_self]; exact H, hE⟩
    · rintro k f w ⟨hm, s0, s1, s6, s7, s8, hk, hfa, e1⟩
      refine W_seq ?_
      refine W_reg (by kernel_rfl) ?_
      refine wla rfl rfl (q_ltI rfl s8 s7) ?_
      refine wl_nil ?_
      refine W_th ?_
      refine W_seq ?_
      refine W_cond _ rfl rfl (fun hbb => ?_) (fun hbb => ?_)
      · have hk1 : l.length - k < l.length := by have := of_decide_eq_true hbb; omega
        have hget : l[l.length - k]? = some l[l.length - k] := by simp [hk1]
        have hidx : idx l ((l.length - k : Nat) : Int) = some l[l.length - k] := by simp [idx, hk1]
        have hdrop : l.drop (l.length - k) = l[l.length - k] :: l.drop (l.length - k + 1) := List.drop_eq_getElem_cons hk1
        rw [hdrop] at hfa
        unfold findAt at hfa
        obtain ⟨b, hb1, hfa⟩ := Option.bind_eq_some_iff.1 hfa
        refine W_skip ?_
        refine W_th ?_
        refine W_seq ?_
        refine W_block ?_
        refine W_seq ?_
        refine W_reg (by kernel_rfl) ?_
        refine wla rfl rfl (q_move (v := i64 ((l.length - k : Nat) : Int)) rfl s8) ?_
        refine wla rfl rfl (q_assign (v := i64 ((l.length - k : Nat) : Int)) rfl rfl) ?_
        refine wl_nil ?_
        refine W_th ?_
        refine W_seq ?_
        refine W_reg (by kernel_rfl) ?_
        refine wla rfl rfl (q_move (v := .func (.func gf) #[] lb.toArray) rfl s1) ?_
        refine wla rfl rfl (q_move (v := v) rfl s0) ?_
        refine wla rfl rfl (q_move (v := i64 ((l.length - k : Nat) : Int)) rfl rfl) ?_
        refine wla rfl rfl (q_adr rfl T47 rfl rfl hl hidx) ?_
        have hl1 := hl.lift (Lift.ext e1 _)
        refine wlq rfl rfl (q_loadS rfl T47 rfl hl1 hidx) ?_
        refine wls rfl rfl (stp_callF (vs := [i64 l[l.length - k]]) hf hn hb rfl rfl (ar1 rfl) (hcl _ (List.getElem_mem hk1) b _ e1 hb1) ?_)
        rintro _ w2 ⟨rfl, x2⟩
        refine ⟨_, rfl, ?_⟩
        have e2 := e1.trans x2
        refine wl_nil ?_
        refine W_th ?_
        refine W_cond b rfl rfl (fun hbt => ?_) (fun hbf => ?_)
        · rw [hbt, if_pos rfl] at hfa
          obtain rfl := Option.some.inj hfa
          refine W_seq ?_
          refine W_reg (by kernel_rfl) ?_
          refine wla rfl rfl (q_move (v := i64 ((l.length - k : Nat) : Int)) rfl rfl) ?_
          refine wla rfl rfl (q_assign (v := i64 ((l.length - k : Nat) : Int)) rfl rfl) ?_
          refine wl_nil ?_
          refine W_th ?_
          refine W_ret ?_
          refine bk_r ?_
          refine th_r ?_
          refine th_r ?_
          refine bk_r ?_
          refine th_r ?_
          refine rt1 _ rfl rfl rfl hm ?_
          exact ⟨rfl, e2⟩
        · rw [hbf, if_neg (by decide)] at hfa
          refine W_skip ?_
          refine bk_n ?_
          refine W_th ?_
          refine W_reg (by kernel_rfl) ?_
          refine wla rfl rfl (q_addI rfl s8 rfl) ?_
          have en : wI (((l.length - k : Nat) : Int) + 1) = ((l.length - (k - 1) : Nat) : Int) := by rw [wI_of (by omega) (by omega)]; omega
          rw [en]
          refine wla rfl rfl (q_move (v := i64 ((l.length - (k - 1) : Nat) : Int)) rfl rfl) ?_
          refine wl_nil ?_
          refine ⟨k - 1, by omega, hm, s0, s1, s6, s7, rfl, by omega, ?_, e2⟩
          rw [show l.length - (k - 1) = l.length - k + 1 by omega]
          rw [show ((l.length - k : Nat) : Int) + 1 = ((l.length - k + 1 : Nat) : Int) by omega] at hfa
          exact hfa
      · have hk0 : k = 0 := by have := of_decide_eq_false hbb; omega
        subst hk0
        rw [Nat.sub_zero, List.drop_length] at hfa
        have hr : (-1 : Int) = r := Option.some.inj hfa
        refine W_exit ?_
        refine th_x ?_
        refine th_x ?_
        refine bk_x ?_
        exact ⟨hm, hr.symm, e1⟩
  · rintro f w ⟨hm, hr, e1⟩
    subst hr
    refine W_th ?_
    refine W_seq ?_
    refine W_reg (by kernel_rfl) ?_
    refine wla rfl rfl (q_assign (v := i64 (-1)) rfl rfl) ?_
    refine wl_nil ?_
    refine W_th ?_
    refine W_ret ?_
    refine rt1 (i64 (-1)) rfl rfl rfl hm ?_
    exact ⟨rfl, e1⟩
set_option maxRecDepth 100000 in
/-- slices.ContainsFunc over []int. -/
theorem ContainsFunc_ints_calls (v : Value) (l : List (Int)) (gf : Nat) (fn : Func) (hf : Try.prog.funcs[gf]? = some fn) (hn : (fn.name == "runtime.NumGoroutine") = false) (hb : fn.body.isNone = false) (lb : List Value) (t : Int → Option Bool) (r : Bool) (w0 : World) (hl : In w0 [] v l) (hlen : l.length < 9223372036854775808) (H : anyO t l = some r)
    (hcl : ∀ x ∈ l, ∀ (b : Bool) (w' : World), Ext w0 w' → t x = some b → Calls Try.prog gf ([i64 x] ++ lb).toArray w' (fun e w'' => e = .returned (.bool b) ∧ Ext w' w'')) :
    Calls Try.prog 67 [v, .func (.func gf) #[] lb.toArray].toArray w0 (fun e w' => e = .returned (.bool r) ∧ Ext w0 w') := by
  obtain ⟨j, h1, h2⟩ := anyO_find (i := 0) t l (by decide) H
  refine calls_W (n := 9) Try.func67 rfl rfl rfl ?_
  refine W_seq ?_
  refine W_reg (by kernel_rfl) ?_
  refine wla rfl rfl (q_assign (v := .bool false) rfl rfl) ?_
  refine wl_nil ?_
  refine W_th ?_
  refine W_seq ?_
  refine W_reg (by kernel_rfl) ?_
  refine wla rfl rfl (q_move (v := v) rfl rfl) ?_
  refine wla rfl rfl (q_move (v := .func (.func gf) #[] lb.toArray) rfl rfl) ?_
  refine wls rfl rfl (stp_call (vs := [v, .func (.func gf) #[] lb.toArray]) Try.func81 rfl rfl rfl (ar2 rfl rfl) (IndexFunc_ints_calls v l gf fn hf hn hb lb t j _ hl hlen h1 hcl) ?_)
  rintro _ w2 ⟨rfl, x2⟩
  refine ⟨_, rfl, ?_⟩
  refine wla rfl rfl (q_geI rfl rfl rfl) ?_
  refine wla rfl rfl (q_assign (v := .bool (decide (0 ≤ j))) rfl rfl) ?_
  refine wl_nil ?_
  refine W_th ?_
  refine W_ret ?_
  refine rt1 _ rfl rfl rfl rfl ?_
  rw [h2]
  exact ⟨rfl, x2⟩
set_option maxRecDepth 100000 in
/-- slices.IndexFunc over []byte. -/
theorem IndexFunc_bytes_calls (v : Value) (l : List (UInt8)) (gf : Nat) (fn : Func) (hf : Try.prog.funcs[gf]? = some fn) (hn : (fn.name == "runtime.NumGoroutine") = false) (hb : fn.body.isNone = false) (lb : List Value) (t : UInt8 → Option Bool) (r : Int) (w0 : World) (hl : By w0 [] v l) (hlen : l.length < 9223372036854775808) (H : findAt t 0 l = some r)
    (hcl : ∀ x ∈ l, ∀ (b : Bool) (w' : World), Ext w0 w' → t x = some b → Calls Try.prog gf ([u8 x] ++ lb).toArray w' (fun e w'' => e = .returned (.bool b) ∧ Ext w' w'')) :
    Calls Try.prog 78 [v, .func (.func gf) #[] lb.toArray].toArray w0 (fun e w' => e = .returned (i64 r) ∧ Ext w0 w') := by
  have hE : Ext w0 w0 := Ext.refl w0
  refine calls_W (n := 19) Try.func78 rfl rfl rfl ?_
  refine W_seq ?_
  refine W_reg (by kernel_rfl) ?_
  refine wla rfl rfl (q_assign (v := i64 0) rfl rfl) ?_
  refine wl_nil ?_
  refine W_th ?_
  refine W_seq ?_
  refine W_mid (fun f w => f 19 = undef ∧ r = -1 ∧ Ext w0 w) ?_ ?_
  · refine W_seq ?_
    refine W_reg (by kernel_rfl) ?_
    refine wla rfl rfl (q_move (v := v) rfl rfl) ?_
    refine wla rfl rfl (q_len rfl T22.sl rfl hl) ?_
    refine wla rfl rfl (q_move (v := i64 0) rfl rfl) ?_
    refine wl_nil ?_
    refine W_th ?_
    refine W_block ?_
    refine W_loopG (fun k f w => f 19 = undef ∧ f 0 = v ∧ f 1 = .func (.func gf) #[] lb.toArray ∧ f 6 = v ∧ f 7 = i64 (l.length : Int) ∧ f 8 = i64 ((l.length - k : Nat) : Int) ∧ k ≤ l.length ∧ findAt t ((l.length - k : Nat) : Int) (l.drop (l.length - k)) = some r ∧ Ext w0 w) l.length ?_ ?_
    · exact ⟨rfl, rfl, rfl, rfl, rfl, by rw [Nat.sub_self]; rfl, Nat.le_refl _, by rw [Nat.sub_self]; exact H, hE⟩
    · rintro k f w ⟨hm, s0, s1, s6, s7, s8, hk, hfa, e1⟩
      refine W_seq ?_
      refine W_reg (by kernel_rfl) ?_
      refine wla rfl rfl (q_ltI rfl s8 s7) ?_
      refine wl_nil ?_
      refine W_th ?_
      refine W_seq ?_
      refine W_cond _ rfl rfl (fun hbb => ?_) (fun hbb => ?_)
      · have hk1 : l.length - k < l.length := by have := of_decide_eq_true hbb; omega
        have hget : l[l.length - k]? = some l[l.length - k] := by simp [hk1]
        have hidx : idx l ((l.length - k : Nat) : Int) = some l[l.length - k] := by simp [idx, hk1]
        have hdrop : l.drop (l.length - k) = l[l.length - k] :: l.drop (l.length - k + 1) := List.drop_eq_getElem_cons hk1
        rw [hdrop] at hfa
        unfold findAt at hfa
        obtain ⟨b, hb1, hfa⟩ := Option.bind_eq_some_iff.1 hfa
        refine W_skip ?_
        refine W_th ?_
        refine W_seq ?_
        refine W_block ?_
        refine W_seq ?_
        refine W_reg (by kernel_rfl) ?_
        refine wla rfl rfl (q_move (v := i64 ((l.length - k : Nat) : Int)) rfl s8) ?_
        refine wla rfl rfl (q_assign (v := i64 ((l.length - k : Nat) : Int)) rfl rfl) ?_
        refine wl_nil ?_
        refine W_th ?_
        refine W_seq ?_
        refine W_reg (by kernel_rfl) ?_
        refine wla rfl rfl (q_move (v := .func (.func gf) #[] lb.toArray) rfl s1) ?_
        refine wla rfl rfl (q_move (v := v) rfl s0) ?_
        refine wla rfl rfl (q_move (v := i64 ((l.length - k : Nat) : Int)) rfl rfl) ?_
        refine wla rfl rfl (q_adr rfl T22 rfl rfl hl hidx) ?_
        have hl1 := hl.lift (Lift.ext e1 _)
        refine wlq rfl rfl (q_loadS rfl T22 rfl hl1 hidx) ?_
        refine wls rfl rfl (stp_callF (vs := [u8 l[l.length - k]]) hf hn hb rfl rfl (ar1 rfl) (hcl _ (List.getElem_mem hk1) b _ e1 hb1) ?_)
        rintro _ w2 ⟨rfl, x2⟩
        refine ⟨_, rfl, ?_⟩
        have e2 := e1.trans x2
        refine wl_nil ?_
        refine W_th ?_
        refine W_cond b rfl rfl (fun hbt => ?_) (fun hbf => ?_)
        · rw [hbt, if_pos rfl] at hfa
          obtain rfl := Option.some.inj hfa
          refine W_seq ?_
          refine W_reg (by kernel_rfl) ?_
          refine wla rfl rfl (q_move (v := i64 ((l.length - k : Nat) : Int)) rfl rfl) ?_
          refine wla rfl rfl (q_assign (v := i64 ((l.length - k : Nat) : Int)) rfl rfl) ?_
          refine wl_nil ?_
          refine W_th ?_
          refine W_ret ?_
          refine bk_r ?_
          refine th_r ?_
          refine th_r ?_
          refine bk_r ?_
          refine th_r ?_
          refine rt1 _ rfl rfl rfl hm ?_
          exact ⟨rfl, e2⟩
        · rw [hbf, if_neg (by decide)] at hfa
          refine W_skip ?_
          refine bk_n ?_
          refine W_th ?_
          refine W_reg (by kernel_rfl) ?_
          refine wla rfl rfl (q_addI rfl s8 rfl) ?_
          have en : wI (((l.length - k : Nat) : Int) + 1) = ((l.length - (k - 1) : Nat) : Int) := by rw [wI_of (by omega) (by omega)]; omega
          rw [en]
          refine wla rfl rfl (q_move (v := i64 ((l.length - (k - 1) : Nat) : Int)) rfl rfl) ?_
          refine wl_nil ?_
          refine ⟨k - 1, by omega, hm, s0, s1, s6, s7, rfl, by omega, ?_, e2⟩
          rw [show l.length - (k - 1) = l.length - k + 1 by omega]
          rw [show ((l.length - k : Nat) : Int) + 1 = ((l.length - k + 1 : Nat) : Int) by omega] at hfa
          exact hfa
      · have hk0 : k = 0 := by have := of_decide_eq_false hbb; omega
        subst hk0
        rw [Nat.sub_zero, List.drop_length] at hfa
        have hr : (-1 : Int) = r := Option.some.inj hfa
        refine W_exit ?_
        refine th_x ?_
        refine th_x ?_
        refine bk_x ?_
        exact ⟨hm, hr.symm, e1⟩
  · rintro f w ⟨hm, hr, e1⟩
    subst hr
    refine W_th ?_
    refine W_seq ?_
    refine W_reg (by kernel_rfl) ?_
    refine wla rfl rfl (q_assign (v := i64 (-1)) rfl rfl) ?_
    refine wl_nil ?_
    refine W_th ?_
    refine W_ret ?_
    refine rt1 (i64 (-1)) rfl rfl rfl hm ?_
    exact ⟨rfl, e1⟩
set_option maxRecDepth 100000 in
/-- slices.ContainsFunc over []byte. -/
theorem ContainsFunc_bytes_calls (v : Value) (l : List (UInt8)) (gf : Nat) (fn : Func) (hf : Try.prog.funcs[gf]? = some fn) (hn : (fn.name == "runtime.NumGoroutine") = false) (hb : fn.body.isNone = false) (lb : List Value) (t : UInt8 → Option Bool) (r : Bool) (w0 : World) (hl : By w0 [] v l) (hlen : l.length < 9223372036854775808) (H : anyO t l = some r)
    (hcl : ∀ x ∈ l, ∀ (b : Bool) (w' : World), Ext w0 w' → t x = some b → Calls Try.prog gf ([u8 x] ++ lb).toArray w' (fun e w'' => e = .returned (.bool b) ∧ Ext w' w'')) :
    Calls Try.prog 59 [v, .func (.func gf) #[] lb.toArray].toArray w0 (fun e w' => e = .returned (.bool r) ∧ Ext w0 w') := by
  obtain ⟨j, h1, h2⟩ := anyO_find (i := 0) t l (by decide) H
  refine calls_W (n := 9) Try.func59 rfl rfl rfl ?_
  refine W_seq ?_
  refine W_reg (by kernel_rfl) ?_
  refine wla rfl rfl (q_assign (v := .bool false) rfl rfl) ?_
  refine wl_nil ?_
  refine W_th ?_
  refine W_seq ?_
  refine W_reg (by kernel_rfl) ?_
  refine wla rfl rfl (q_move (v := v) rfl rfl) ?_
  refine wla rfl rfl (q_move (v := .func (.func gf) #[] lb.toArray) rfl rfl) ?_
  refine wls rfl rfl (stp_call (vs := [v, .func (.func gf) #[] lb.toArray]) Try.func78 rfl rfl rfl (ar2 rfl rfl) (IndexFunc_bytes_calls v l gf fn hf hn hb lb t j _ hl hlen h1 hcl) ?_)
  rintro _ w2 ⟨rfl, x2⟩
  refine ⟨_, rfl, ?_⟩
  refine wla rfl rfl (q_geI rfl rfl rfl) ?_
  refine wla rfl rfl (q_assign (v := .bool (decide (0 ≤ j))) rfl rfl) ?_
  refine wl_nil ?_
  refine W_th ?_
  refine W_ret ?_
  refine rt1 _ rfl rfl rfl rfl ?_
  rw [h2]
  exact ⟨rfl, x2⟩
end Gk

/- Printed by gen.py: for each Go function a pure function, and that the Go code comes to it. No condition beside the equation that says what the pure function gives. -/


set_option linter.unusedVariables false
set_option linter.unusedSimpArgs false
namespace Gk
open Go Go.Proofs

/-! slices.Index[[]byte,byte] -/
noncomputable def slices_Index_sbytebyte (a0s : List UInt8) (a1v : UInt8) : Option Int :=
((iterC (fun s1 : Int =>
(if s1 < (a0s.length : Int) then
((idx a0s s1).bind fun c4 =>
(if a1v = c4 then some (.inr (.inr s1))
else some (.inl (wI (s1 + 1)))))
else some (.inr (.inl ())))) 0).bind (Sum.elim (fun y1 => some (-1)) (fun q1 => some q1)))
set_option maxRecDepth 100000 in
set_option maxHeartbeats 8000000 in
theorem slices_Index_sbytebyte_calls (a0s : List UInt8) (a1v : UInt8) (p0 : Value) (r : Int) (w0 : World) (hp0 : By w0 [] p0 a0s) (H : slices_Index_sbytebyte a0s a1v = some r) :
    Calls Try.prog 82 [p0, (u8 a1v)].toArray w0 (fun e w' => e = .returned (i64 r) ∧ Ext w0 w') := by
  have hE : Ext w0 w0 := Ext.refl w0
  unfold slices_Index_sbytebyte at H
  refine calls_W (n := 19) Try.func82 rfl rfl rfl ?_
  refine W_seq ?_
  refine W_reg (by kernel_rfl) ?_
  refine wla rfl rfl (q_assign (v := (i64 0)) rfl rfl) ?_
  refine wl_nil ?_
  refine W_th ?_
  refine W_seq ?_
  refine W_seq ?_
  refine W_reg (by kernel_rfl) ?_
  refine wla rfl rfl (q_move (v := p0) rfl rfl) ?_
  refine wla rfl rfl (q_len rfl T22.sl rfl (hp0.lift (Lift.ext hE _))) ?_
  refine wla rfl rfl (q_move (v := (i64 0)) rfl rfl) ?_
  refine wl_nil ?_
  refine W_th ?_
  obtain ⟨x1, G1, H⟩ := Option.bind_eq_some_iff.1 H
  refine W_mid (fun f w => ∃ y1, x1 = .inl y1 ∧ f 19 = undef ∧ Ext w0 w) ?_ ?_
  · refine W_block ?_
    refine W_loop (fun s1 f w => f 0 = p0 ∧ f 1 = (u8 a1v) ∧ f 7 = (i64 ((a0s.length : Int))) ∧ f 8 = (i64 s1) ∧ f 19 = undef ∧ Ext w0 w) G1 ?_ ?_
    · exact ⟨rfl, rfl, rfl, rfl, rfl, hE⟩
    · rintro s1 _ _ w2 ⟨s0_2, s1_2, s7_2, s8_2, s19_2, hE2⟩ H1 hr1
      refine W_seq ?_
      refine W_reg (by kernel_rfl) ?_
      refine wla rfl rfl (q_ltI rfl s8_2 s7_2) ?_
      refine wl_nil ?_
      refine W_th ?_
      refine W_seq ?_
      refine W_cond _ rfl rfl (fun hb3 => ?_) (fun hb3 => ?_)
      · replace H1 := (if_pos (of_decide_eq_true hb3)).symm.trans H1
        refine W_skip ?_
        refine W_th ?_
        refine W_seq ?_
        refine W_block ?_
        refine W_seq ?_
        refine W_reg (by kernel_rfl) ?_
        refine wla rfl rfl (q_move (v := (i64 s1)) rfl s8_2) ?_
        refine wla rfl rfl (q_assign (v := (i64 s1)) rfl rfl) ?_
        refine wl_nil ?_
        refine W_th ?_
        refine W_seq ?_
        refine W_reg (by kernel_rfl) ?_
        refine wla rfl rfl (q_move (v := (u8 a1v)) rfl s1_2) ?_
        refine wla rfl rfl (q_move (v := p0) rfl s0_2) ?_
        refine wla rfl rfl (q_move (v := (i64 s1)) rfl rfl) ?_
        obtain ⟨c4, hc4, H1⟩ := Option.bind_eq_some_iff.1 H1
        refine wla rfl rfl (q_adr rfl T22 rfl rfl (hp0.lift (Lift.ext hE2 _)) hc4) ?_
        refine wlq rfl rfl (q_loadS rfl T22 rfl (hp0.lift (Lift.ext hE2 _)) hc4) ?_
        refine wla rfl rfl (q_eq8 rfl rfl rfl) ?_
        refine wl_nil ?_
        refine W_th ?_
        refine W_cond _ rfl rfl (fun hb5 => ?_) (fun hb5 => ?_)
        · replace H1 := (if_pos (of_decide_eq_true hb5)).symm.trans H1
          refine W_seq ?_
          refine W_reg (by kernel_rfl) ?_
          refine wla rfl rfl (q_move (v := (i64 s1)) rfl rfl) ?_
          refine wla rfl rfl (q_assign (v := (i64 s1)) rfl rfl) ?_
          refine wl_nil ?_
          refine W_th ?_
          refine W_ret ?_
          refine bk_r ?_
          refine th_r ?_
          obtain rfl := Option.some.inj H1
          obtain rfl := hr1 _ rfl
          simp only [Sum.elim_inr] at H
          refine th_r ?_
          refine bk_r ?_
          refine th_r ?_
          refine th_r ?_
          obtain rfl := Option.some.inj H
          refine rt1 (i64 s1) rfl rfl rfl s19_2 ?_
          exact ⟨rfl, hE2⟩
        · replace H1 := (if_neg (of_decide_eq_false hb5)).symm.trans H1
          refine W_skip ?_
          refine bk_n ?_
          refine W_th ?_
          refine W_reg (by kernel_rfl) ?_
          refine wla rfl rfl (q_addI rfl s8_2 rfl) ?_
          refine wla rfl rfl (q_move (v := (i64 ((wI (s1 + 1))))) rfl rfl) ?_
          refine wl_nil ?_
          obtain rfl := Option.some.inj H1
          exact ⟨_, rfl, s0_2, s1_2, s7_2, rfl, s19_2, hE2⟩
      · replace H1 := (if_neg (of_decide_eq_false hb3)).symm.trans H1
        refine W_exit ?_
        refine th_x ?_
        obtain rfl := Option.some.inj H1
        obtain rfl := hr1 _ rfl
        refine th_x ?_
        refine bk_x ?_
        exact ⟨_, rfl, s19_2, hE2⟩
  · rintro _ w7 ⟨y1, rfl, s19_7, hE7⟩
    simp only [Sum.elim_inl] at H
    refine W_th ?_
    refine W_seq ?_
    refine W_reg (by kernel_rfl) ?_
    refine wla rfl rfl (q_assign (v := (i64 (-1))) rfl rfl) ?_
    refine wl_nil ?_
    refine W_th ?_
    refine W_ret ?_
    obtain rfl := Option.some.inj H
    refine rt1 (i64 (-1)) rfl rfl rfl s19_7 ?_
    exact ⟨rfl, hE7⟩

/-! slices.Contains[[]byte,byte] -/
noncomputable def slices_Contains_sbytebyte (a0s : List UInt8) (a1v : UInt8) : Option Bool :=
((slices_Index_sbytebyte a0s a1v).bind fun r1 => some (decide (0 ≤ r1)))
set_option maxRecDepth 100000 in
set_option maxHeartbeats 8000000 in
theorem slices_Contains_sbytebyte_calls (a0s : List UInt8) (a1v : UInt8) (p0 : Value) (r : Bool) (w0 : World) (hp0 : By w0 [] p0 a0s) (H : slices_Contains_sbytebyte a0s a1v = some r) :
    Calls Try.prog 71 [p0, (u8 a1v)].toArray w0 (fun e w' => e = .returned (.bool r) ∧ Ext w0 w') := by
  have hE : Ext w0 w0 := Ext.refl w0
  unfold slices_Contains_sbytebyte at H
  refine calls_W (n := 9) Try.func71 rfl rfl rfl ?_
  refine W_seq ?_
  refine W_reg (by kernel_rfl) ?_
  refine wla rfl rfl (q_assign (v := (.bool false)) rfl rfl) ?_
  refine wl_nil ?_
  refine W_th ?_
  refine W_seq ?_
  refine W_reg (by kernel_rfl) ?_
  refine wla rfl rfl (q_move (v := p0) rfl rfl) ?_
  refine wla rfl rfl (q_move (v := (u8 a1v)) rfl rfl) ?_
  obtain ⟨r1, hr1, H⟩ := Option.bind_eq_some_iff.1 H
  refine wls rfl rfl (stp_call (vs := [p0, (u8 a1v)]) Try.func82 rfl rfl rfl (ar2 rfl rfl) (slices_Index_sbytebyte_calls a0s a1v p0 r1 _ (hp0.lift (Lift.ext hE _)) hr1) ?_)
  rintro _ w1 ⟨rfl, x1⟩
  refine ⟨_, rfl, ?_⟩
  have e2 := hE.trans x1
  refine wla rfl rfl (q_geI rfl rfl rfl) ?_
  refine wla rfl rfl (q_assign (v := (.bool ((decide (0 ≤ r1))))) rfl rfl) ?_
  refine wl_nil ?_
  refine W_th ?_
  refine W_ret ?_
  obtain rfl := Option.some.inj H
  refine rt1 (.bool ((decide (0 ≤ r1)))) rfl rfl rfl rfl ?_
  exact ⟨rfl, e2⟩

/-! largesse/word.Xor -/
noncomputable def word_Xor (a0a : List UInt8) (a1b : List UInt8) : Option (List UInt8) :=
((makeL ((if (a1b.length : Int) < (a0a.length : Int) then (a1b.length : Int) else (a0a.length : Int))) (0 : UInt8)).bind fun c1 =>
((iterC (fun s4 : List UInt8 × Int =>
(if s4.2 < (c1.length : Int) then
((idx a0a s4.2).bind fun c9 =>
((idx a1b s4.2).bind fun c10 =>
((idx s4.1 s4.2).bind fun c11 => some (.inl ((s4.1.set (s4.2 : Int).toNat ((c9 ^^^ c10))), (wI (s4.2 + 1)))))))
else some (.inr s4.1))) (c1, 0)).bind fun x4 => some x4))
set_option maxRecDepth 100000 in
set_option maxHeartbeats 8000000 in
theorem word_Xor_calls (a0a : List UInt8) (a1b : List UInt8) (p0 : Value) (p1 : Value) (r : List UInt8) (w0 : World) (hp0 : By w0 [] p0 a0a) (hp1 : By w0 [] p1 a1b) (H : word_Xor a0a a1b = some r) :
    Calls Try.prog 33 [p0, p1].toArray w0 (fun e w' => ∃ u0 : Value, e = .returned u0 ∧ Ext w0 w' ∧ Nw w0 u0 ∧ OwK (Sc u8) w' [] 5 u0 r) := by
  have hE : Ext w0 w0 := Ext.refl w0
  unfold word_Xor at H
  refine calls_W (n := 32) Try.func33 rfl rfl rfl ?_
  refine W_seq ?_
  refine W_reg (by kernel_rfl) ?_
  refine wla rfl rfl (q_assign (v := (.slice none 0 0)) rfl rfl) ?_
  refine wl_nil ?_
  refine W_th ?_
  refine W_seq ?_
  refine W_reg (by kernel_rfl) ?_
  refine wla rfl rfl (q_move (v := p0) rfl rfl) ?_
  refine wla rfl rfl (q_len rfl T22.sl rfl (hp0.lift (Lift.ext hE _))) ?_
  refine wla rfl rfl (q_move (v := p1) rfl rfl) ?_
  refine wla rfl rfl (q_len rfl T22.sl rfl (hp1.lift (Lift.ext hE _))) ?_
  refine wla rfl rfl (q_minI rfl rfl rfl) ?_
  obtain ⟨c1, hc1, H⟩ := Option.bind_eq_some_iff.1 H
  refine wls rfl rfl (stp_make (L := []) (R := (Sc u8)) rfl T22 rfl rfl hc1 (fun _ _ => rfl) ?_)
  intro v1 w1 o1 n1 g1 l1
  have x1 := grown_ext g1
  have n3 := Nw.ext hE n1
  have e2 := hE.trans x1
  refine wla rfl rfl (q_assign (v := v1) rfl rfl) ?_
  refine wl_nil ?_
  refine W_th ?_
  refine W_seq ?_
  refine W_seq ?_
  refine W_reg (by kernel_rfl) ?_
  refine wla rfl rfl (q_move (v := v1) rfl rfl) ?_
  refine wla rfl rfl (q_len rfl T22.sl rfl (o1.rd (Sc.stab _))) ?_
  refine wla rfl rfl (q_move (v := (i64 0)) rfl rfl) ?_
  refine wl_nil ?_
  refine W_th ?_
  obtain ⟨x4, G4, H⟩ := Option.bind_eq_some_iff.1 H
  refine W_mid (fun f w => f 5 = v1 ∧ f 32 = undef ∧ Ext w0 w ∧ OwK (Sc u8) w [v1] 5 v1 x4 ∧ Nw w0 v1) ?_ ?_
  · refine W_block ?_
    refine W_loop (fun s4 f w => f 0 = p0 ∧ f 1 = p1 ∧ f 5 = v1 ∧ f 14 = (i64 ((c1.length : Int))) ∧ f 15 = (i64 s4.2) ∧ f 32 = undef ∧ Ext w0 w ∧ OwK (Sc u8) w [v1] 5 v1 s4.1 ∧ Nw w0 v1) G4 ?_ ?_
    · exact ⟨rfl, rfl, rfl, rfl, rfl, rfl, e2, o1, n3⟩
    · rintro s4 _ _ w5 ⟨s0_5, s1_5, s5_5, s14_5, s15_5, s32_5, hE5, o0_5, n0_5⟩ H4 hr4
      refine W_seq ?_
      refine W_reg (by kernel_rfl) ?_
      refine wla rfl rfl (q_ltI rfl s15_5 s14_5) ?_
      refine wl_nil ?_
      refine W_th ?_
      refine W_seq ?_
      refine W_cond _ rfl rfl (fun hb6 => ?_) (fun hb6 => ?_)
      · replace H4 := (if_pos (of_decide_eq_true hb6)).symm.trans H4
        refine W_skip ?_
        refine W_th ?_
        refine W_seq ?_
        refine W_block ?_
        refine W_seq ?_
        refine W_reg (by kernel_rfl) ?_
        refine wla rfl rfl (q_move (v := (i64 s4.2)) rfl s15_5) ?_
        refine wla rfl rfl (q_assign (v := (i64 s4.2)) rfl rfl) ?_
        refine wl_nil ?_
        refine W_th ?_
        refine W_draw [5, 9] [(0, 0), (1, 0), (2, 0), (3, 0), (4, 0), (5, 1), (6, 0), (7, 0), (8, 0), (9, 1), (10, 0), (11, 0), (12, 2)] mixed (by kernel_rfl) (by kernel_rfl) (by kernel_rfl) (by kernel_rfl) ?_
        have x7 := Ext.drew w5
        replace o0_5 := o0_5.extL (Sc.stab _) x7 (Lift.ext x7 _)
        have e8 := hE5.trans x7
        refine wsa rfl rfl rfl (q_move (v := v1) rfl s5_5) ?_
        refine wsa rfl rfl rfl (q_move (v := (i64 s4.2)) rfl rfl) ?_
        refine wsa rfl rfl rfl (q_move (v := p0) rfl s0_5) ?_
        refine wsa rfl rfl rfl (q_move (v := (i64 s4.2)) rfl rfl) ?_
        obtain ⟨c9, hc9, H4⟩ := Option.bind_eq_some_iff.1 H4
        refine wsa rfl rfl rfl (q_adr rfl T22 rfl rfl (hp0.lift (Lift.ext e8 _)) hc9) ?_
        refine wsq rfl rfl rfl (q_loadS rfl T22 rfl (hp0.lift (Lift.ext e8 _)) hc9) ?_
        refine wsa rfl rfl rfl (q_move (v := p1) rfl s1_5) ?_
        refine wsa rfl rfl rfl (q_move (v := (i64 s4.2)) rfl rfl) ?_
        obtain ⟨c10, hc10, H4⟩ := Option.bind_eq_some_iff.1 H4
        refine wsa rfl rfl rfl (q_adr rfl T22 rfl rfl (hp1.lift (Lift.ext e8 _)) hc10) ?_
        refine wsq rfl rfl rfl (q_loadS rfl T22 rfl (hp1.lift (Lift.ext e8 _)) hc10) ?_
        refine wsa rfl rfl rfl (q_xor8 rfl rfl rfl) ?_
        obtain ⟨c11, hc11, H4⟩ := Option.bind_eq_some_iff.1 H4
        refine wsa rfl rfl rfl (q_adr rfl T22 rfl rfl (o0_5.rd (Sc.stab _)) hc11) ?_
        refine wsn rfl (by kernel_rfl) rfl rfl (stp_store (R := (Sc u8)) (u := (u8 ((c9 ^^^ c10)))) (Sc.stab _) [] [] rfl T22 rfl rfl o0_5 (put_of ((c9 ^^^ c10)) hc11) rfl rfl ?_)
        intro w12 o12 g12 l12
        have e13 := e8.grown g12 n0_5
        refine ws_nil ?_
        refine bk_n ?_
        refine W_th ?_
        refine W_reg (by kernel_rfl) ?_
        refine wla rfl rfl (q_addI rfl s15_5 rfl) ?_
        refine wla rfl rfl (q_move (v := (i64 ((wI (s4.2 + 1))))) rfl rfl) ?_
        refine wl_nil ?_
        obtain rfl := Option.some.inj H4
        exact ⟨_, rfl, s0_5, s1_5, s5_5, s14_5, rfl, s32_5, e13, o12, n0_5⟩
      · replace H4 := (if_neg (of_decide_eq_false hb6)).symm.trans H4
        refine W_exit ?_
        refine th_x ?_
        obtain rfl := Option.some.inj H4
        obtain rfl := hr4 _ rfl
        refine th_x ?_
        refine bk_x ?_
        exact ⟨s5_5, s32_5, hE5, o0_5, n0_5⟩
  · rintro _ w15 ⟨s5_15, s32_15, hE15, o0_15, n0_15⟩
    refine W_th ?_
    refine W_seq ?_
    refine W_reg (by kernel_rfl) ?_
    refine wla rfl rfl (q_move (v := v1) rfl s5_15) ?_
    refine wla rfl rfl (q_assign (v := v1) rfl rfl) ?_
    refine wl_nil ?_
    refine W_th ?_
    refine W_ret ?_
    obtain rfl := Option.some.inj H
    refine rt1 v1 rfl rfl rfl s32_15 ?_
    exact ⟨v1, rfl, hE15, n0_15, (o0_15.weak (Sc.stab _) (fun _ _ => trivial))⟩

end Gk

/- Printed by gen.py: for each Go function a pure function, and that the Go code comes to it. No condition beside the equation that says what the pure function gives. -/

set_option linter.unusedVariables false
set_option linter.unusedSimpArgs false
namespace Gk
open Go Go.Proofs

/-! largesse/largesseref03.Trim -/
noncomputable def ref03_Trim (a0p : List UInt8) : Option (List UInt8) :=
((appL (([] : List UInt8)) a0p).bind fun c4 =>
((iterC (fun s7 : List UInt8 =>
(if 0 < (s7.length : Int) then
((idx s7 ((wI ((s7.length : Int) - 1)))).bind fun c10 =>
(if c10 = (0 : UInt8) then
((subL s7 0 ((wI ((s7.length : Int) - 1)))).bind fun c12 => some (.inl c12))
else some (.inr s7)))
else some (.inr s7))) c4).bind fun x7 => some x7))
set_option maxRecDepth 100000 in
set_option maxHeartbeats 8000000 in
theorem ref03_Trim_calls (a0p : List UInt8) (p0 : Value) (r : List UInt8) (w0 : World) (hp0 : By w0 [] p0 a0p) (H : ref03_Trim a0p = some r) :
    Calls Try.prog 56 [p0].toArray w0 (fun e w' => ∃ u0 : Value, e = .returned u0 ∧ Ext w0 w' ∧ Nw w0 u0 ∧ OwK (Sc u8) w' [] 5 u0 r) := by
  have hE : Ext w0 w0 := Ext.refl w0
  unfold ref03_Trim at H
  refine calls_W (n := 25) Try.func56 rfl rfl rfl ?_
  refine W_seq ?_
  refine W_reg (by kernel_rfl) ?_
  refine wla rfl rfl (q_assign (v := (.slice none 0 0)) rfl rfl) ?_
  refine wl_nil ?_
  refine W_th ?_
  refine W_seq ?_
  refine W_reg (by kernel_rfl) ?_
  refine wls rfl rfl (stp_lit (L := []) (R := (Sc u8)) [] ([] : List UInt8) rfl T22 rfl (by exact trivial) rfl (litC u8 (oneC_u8) (us := []) (l := ([] : List UInt8)) rfl) rfl (litS u8 (us := []) (l := ([] : List UInt8)) rfl) ?_)
  intro v1 w1 o1 n1 g1 l1
  have x1 := grown_ext g1
  have n3 := Nw.ext hE n1
  have e2 := hE.trans x1
  refine wla rfl rfl (q_move (v := p0) rfl rfl) ?_
  obtain ⟨c4, hc4, H⟩ := Option.bind_eq_some_iff.1 H
  refine wls rfl rfl (stp_append (R := (Sc u8)) (v := v1) (u := p0) (Sc.stab _) [] [] rfl T22 rfl rfl o1 (hp0.lift (Lift.ext e2 _)) (fun _ _ h => h) hc4 oc_u8 ?_)
  intro v4 w4 o4 g4 nx4 l4
  have e5 := e2.grown g4 n3
  have n6 := Nw.nxt e2 n3 nx4
  refine wla rfl rfl (q_assign (v := v4) rfl rfl) ?_
  refine wl_nil ?_
  refine W_th ?_
  refine W_seq ?_
  obtain ⟨x7, G7, H⟩ := Option.bind_eq_some_iff.1 H
  refine W_mid (fun f w => ∃ v3_17 : Value, f 3 = v3_17 ∧ f 25 = undef ∧ Ext w0 w ∧ OwK (Sc u8) w [v3_17] 5 v3_17 x7 ∧ Nw w0 v3_17) ?_ ?_
  · refine W_block ?_
    refine W_loop (fun s7 f w => ∃ v3_15 : Value, f 3 = v3_15 ∧ f 25 = undef ∧ Ext w0 w ∧ OwK (Sc u8) w [v3_15] 5 v3_15 s7 ∧ Nw w0 v3_15) G7 ?_ ?_
    · exact ⟨v4, rfl, rfl, e5, o4, n6⟩
    · rintro s7 _ _ w8 ⟨v3_8, s3_8, s25_8, hE8, o0_8, n0_8⟩ H7 hr7
      refine W_seq ?_
      refine W_seq ?_
      refine W_reg (by kernel_rfl) ?_
      refine wla rfl rfl (q_move (v := v3_8) rfl s3_8) ?_
      refine wla rfl rfl (q_len rfl T22.sl rfl (o0_8.rd (Sc.stab _))) ?_
      refine wla rfl rfl (q_gtI rfl rfl rfl) ?_
      refine wlb rfl rfl (q_move (v := (.bool ((decide (0 < (s7.length : Int)))))) rfl rfl) (fun hb9 => ?_) (fun hb9 => ?_)
      · replace H7 := (if_pos (of_decide_eq_true hb9)).symm.trans H7
        refine wla rfl rfl (q_move (v := v3_8) rfl s3_8) ?_
        refine wla rfl rfl (q_move (v := v3_8) rfl s3_8) ?_
        refine wla rfl rfl (q_len rfl T22.sl rfl (o0_8.rd (Sc.stab _))) ?_
        refine wla rfl rfl (q_subI rfl rfl rfl) ?_
        obtain ⟨c10, hc10, H7⟩ := Option.bind_eq_some_iff.1 H7
        refine wla rfl rfl (q_adr rfl T22 rfl rfl (o0_8.rd (Sc.stab _)) hc10) ?_
        refine wlq rfl rfl (q_loadS rfl T22 rfl (o0_8.rd (Sc.stab _)) hc10) ?_
        refine wla rfl rfl (q_eq8 rfl rfl (cst8 (0 : UInt8) rfl)) ?_
        refine wla rfl rfl (q_pick_t (v := (.bool ((decide (c10 = (0 : UInt8)))))) rfl rfl rfl) ?_
        refine wl_nil ?_
        refine W_th ?_
        refine W_cond _ rfl rfl (fun hb11 => ?_) (fun hb11 => ?_)
        · replace H7 := (if_pos (of_decide_eq_true hb11)).symm.trans H7
          refine W_skip ?_
          refine W_th ?_
          refine W_block ?_
          refine W_reg (by kernel_rfl) ?_
          refine wla rfl rfl (q_move (v := v3_8) rfl s3_8) ?_
          refine wla rfl rfl (q_move (v := v3_8) rfl s3_8) ?_
          refine wla rfl rfl (q_len rfl T22.sl rfl (o0_8.rd (Sc.stab _))) ?_
          refine wla rfl rfl (q_subI rfl rfl rfl) ?_
          obtain ⟨c12, hc12, H7⟩ := Option.bind_eq_some_iff.1 H7
          refine wla rfl rfl (q_slice (a := 0) (b := (wI ((s7.length : Int) - 1))) rfl T22 rfl (o0_8.rd (Sc.stab _)) rfl rfl hc12) ?_
          obtain ⟨o12, nx12, l12⟩ := own_cut (lo := 0) (hi := (wI ((s7.length : Int) - 1))) (Sc.stab _) [] [] o0_8 rfl hc12
          have e13 := hE8.grown (Gr.refl _ _) n0_8
          have n14 := Nw.nxt hE8 n0_8 nx12
          refine wla rfl rfl (q_assign (v := (subV v3_8 (0 : Int).toNat ((wI ((s7.length : Int) - 1)) : Int).toNat)) rfl rfl) ?_
          refine wl_nil ?_
          refine bk_n ?_
          obtain rfl := Option.some.inj H7
          exact ⟨_, rfl, (subV v3_8 (0 : Int).toNat ((wI ((s7.length : Int) - 1)) : Int).toNat), rfl, s25_8, e13, o12, n14⟩
        · replace H7 := (if_neg (of_decide_eq_false hb11)).symm.trans H7
          refine W_exit ?_
          refine th_x ?_
          obtain rfl := Option.some.inj H7
          obtain rfl := hr7 _ rfl
          refine th_x ?_
          refine bk_x ?_
          exact ⟨v3_8, s3_8, s25_8, hE8, o0_8, n0_8⟩
      · replace H7 := (if_neg (of_decide_eq_false hb9)).symm.trans H7
        refine wlk rfl rfl ?_
        refine wlk rfl rfl ?_
        refine wlk rfl rfl ?_
        refine wlk rfl rfl ?_
        refine wlk rfl rfl ?_
        refine wlk rfl rfl ?_
        refine wlk rfl rfl ?_
        refine wla rfl rfl (q_pick_f (v := (.bool false)) rfl rfl rfl) ?_
        refine wl_nil ?_
        refine W_th ?_
        refine W_cond false rfl rfl (fun hb => by cases hb) (fun _ => ?_)
        refine W_exit ?_
        refine th_x ?_
        obtain rfl := Option.some.inj H7
        obtain rfl := hr7 _ rfl
        refine th_x ?_
        refine bk_x ?_
        exact ⟨v3_8, s3_8, s25_8, hE8, o0_8, n0_8⟩
  · rintro _ w16 ⟨v3_16, s3_16, s25_16, hE16, o0_16, n0_16⟩
    refine W_th ?_
    refine W_seq ?_
    refine W_reg (by kernel_rfl) ?_
    refine wla rfl rfl (q_move (v := v3_16) rfl s3_16) ?_
    refine wla rfl rfl (q_assign (v := v3_16) rfl rfl) ?_
    refine wl_nil ?_
    refine W_th ?_
    refine W_ret ?_
    obtain rfl := Option.some.inj H
    refine rt1 v3_16 rfl rfl rfl s25_16 ?_
    exact ⟨v3_16, rfl, hE16, n0_16, (o0_16.weak (Sc.stab _) (fun _ _ => trivial))⟩

/-! largesse/largesseref03.Eval -/
noncomputable def ref03_Eval (a0p : List UInt8) (a1x : UInt8) : Option UInt8 :=
((iterC (fun s1 : UInt8 × UInt8 × Int =>
(if s1.2.2 < (a0p.length : Int) then
((idx a0p s1.2.2).bind fun c4 =>
((ref02_Mul c4 s1.2.1).bind fun r5 =>
((ref02_Mul s1.2.1 a1x).bind fun r7 => some (.inl ((s1.1 ^^^ r5), r7, (wI (s1.2.2 + 1)))))))
else some (.inr s1.1))) ((0 : UInt8), (1 : UInt8), 0)).bind fun x1 => some x1)
set_option maxRecDepth 100000 in
set_option maxHeartbeats 8000000 in
theorem ref03_Eval_calls (a0p : List UInt8) (a1x : UInt8) (p0 : Value) (r : UInt8) (w0 : World) (hp0 : By w0 [] p0 a0p) (H : ref03_Eval a0p a1x = some r) :
    Calls Try.prog 20 [p0, (u8 a1x)].toArray w0 (fun e w' => e = .returned (u8 r) ∧ Ext w0 w') := by
  have hE : Ext w0 w0 := Ext.refl w0
  unfold ref03_Eval at H
  refine calls_W (n := 25) Try.func20 rfl rfl rfl ?_
  refine W_seq ?_
  refine W_reg (by kernel_rfl) ?_
  refine wla rfl rfl (q_assign (v := (u8 0)) rfl (cst8 (0 : UInt8) rfl)) ?_
  refine wl_nil ?_
  refine W_th ?_
  refine W_seq ?_
  refine W_reg (by kernel_rfl) ?_
  refine wla rfl rfl (q_assign (v := (u8 0)) rfl (cst8 (0 : UInt8) rfl)) ?_
  refine wla rfl rfl (q_assign (v := (u8 1)) rfl (cst8 (1 : UInt8) rfl)) ?_
  refine wl_nil ?_
  refine W_th ?_
  refine W_seq ?_
  refine W_seq ?_
  refine W_reg (by kernel_rfl) ?_
  refine wla rfl rfl (q_move (v := p0) rfl rfl) ?_
  refine wla rfl rfl (q_len rfl T22.sl rfl (hp0.lift (Lift.ext hE _))) ?_
  refine wla rfl rfl (q_move (v := (i64 0)) rfl rfl) ?_
  refine wl_nil ?_
  refine W_th ?_
  obtain ⟨x1, G1, H⟩ := Option.bind_eq_some_iff.1 H
  refine W_mid (fun f w => f 5 = (u8 x1) ∧ f 25 = undef ∧ Ext w0 w) ?_ ?_
  · refine W_block ?_
    refine W_loop (fun s1 f w => f 1 = (u8 a1x) ∧ f 5 = (u8 s1.1) ∧ f 6 = (u8 s1.2.1) ∧ f 9 = p0 ∧ f 10 = (i64 ((a0p.length : Int))) ∧ f 11 = (i64 s1.2.2) ∧ f 25 = undef ∧ Ext w0 w) G1 ?_ ?_
    · exact ⟨rfl, rfl, rfl, rfl, rfl, rfl, rfl, hE⟩
    · rintro s1 _ _ w2 ⟨s1_2, s5_2, s6_2, s9_2, s10_2, s11_2, s25_2, hE2⟩ H1 hr1
      refine W_seq ?_
      refine W_reg (by kernel_rfl) ?_
      refine wla rfl rfl (q_ltI rfl s11_2 s10_2) ?_
      refine wl_nil ?_
      refine W_th ?_
      refine W_seq ?_
      refine W_cond _ rfl rfl (fun hb3 => ?_) (fun hb3 => ?_)
      · replace H1 := (if_pos (of_decide_eq_true hb3)).symm.trans H1
        refine W_skip ?_
        refine W_th ?_
        refine W_seq ?_
        refine W_block ?_
        refine W_seq ?_
        refine W_reg (by kernel_rfl) ?_
        obtain ⟨c4, hc4, H1⟩ := Option.bind_eq_some_iff.1 H1
        refine wla rfl rfl (q_adr rfl T22 s9_2 s11_2 (hp0.lift (Lift.ext hE2 _)) hc4) ?_
        refine wlq rfl rfl (q_loadS rfl T22 rfl (hp0.lift (Lift.ext hE2 _)) hc4) ?_
        refine wla rfl rfl (q_assign (v := (u8 c4)) rfl rfl) ?_
        refine wl_nil ?_
        refine W_th ?_
        refine W_seq ?_
        refine W_reg (by kernel_rfl) ?_
        refine wla rfl rfl (q_move (v := (u8 s1.1)) rfl s5_2) ?_
        refine wla rfl rfl (q_move (v := (u8 c4)) rfl rfl) ?_
        refine wla rfl rfl (q_move (v := (u8 s1.2.1)) rfl s6_2) ?_
        obtain ⟨r5, hr5, H1⟩ := Option.bind_eq_some_iff.1 H1
        refine wls rfl rfl (stp_call (vs := [(u8 c4), (u8 s1.2.1)]) Try.func48 rfl rfl rfl (ar2 rfl rfl) (ref02_Mul_calls c4 s1.2.1  r5 _  hr5) ?_)
        rintro _ w5 ⟨rfl, x5⟩
        refine ⟨_, rfl, ?_⟩
        have e6 := hE2.trans x5
        refine wla rfl rfl (q_xor8 rfl rfl rfl) ?_
        refine wla rfl rfl (q_assign (v := (u8 ((s1.1 ^^^ r5)))) rfl rfl) ?_
        refine wl_nil ?_
        refine W_th ?_
        refine W_reg (by kernel_rfl) ?_
        refine wla rfl rfl (q_move (v := (u8 s1.2.1)) rfl s6_2) ?_
        refine wla rfl rfl (q_move (v := (u8 a1x)) rfl s1_2) ?_
        obtain ⟨r7, hr7, H1⟩ := Option.bind_eq_some_iff.1 H1
        refine wls rfl rfl (stp_call (vs := [(u8 s1.2.1), (u8 a1x)]) Try.func48 rfl rfl rfl (ar2 rfl rfl) (ref02_Mul_calls s1.2.1 a1x  r7 _  hr7) ?_)
        rintro _ w7 ⟨rfl, x7⟩
        refine ⟨_, rfl, ?_⟩
        have e8 := e6.trans x7
        refine wla rfl rfl (q_assign (v := (u8 r7)) rfl rfl) ?_
        refine wl_nil ?_
        refine bk_n ?_
        refine W_th ?_
        refine W_reg (by kernel_rfl) ?_
        refine wla rfl rfl (q_addI rfl s11_2 rfl) ?_
        refine wla rfl rfl (q_move (v := (i64 ((wI (s1.2.2 + 1))))) rfl rfl) ?_
        refine wl_nil ?_
        obtain rfl := Option.some.inj H1
        exact ⟨_, rfl, s1_2, rfl, rfl, s9_2, s10_2, rfl, s25_2, e8⟩
      · replace H1 := (if_neg (of_decide_eq_false hb3)).symm.trans H1
        refine W_exit ?_
        refine th_x ?_
        obtain rfl := Option.some.inj H1
        obtain rfl := hr1 _ rfl
        refine th_x ?_
        refine bk_x ?_
        exact ⟨s5_2, s25_2, hE2⟩
  · rintro _ w10 ⟨s5_10, s25_10, hE10⟩
    refine W_th ?_
    refine W_seq ?_
    refine W_reg (by kernel_rfl) ?_
    refine wla rfl rfl (q_move (v := (u8 x1)) rfl s5_10) ?_
    refine wla rfl rfl (q_assign (v := (u8 x1)) rfl rfl) ?_
    refine wl_nil ?_
    refine W_th ?_
    refine W_ret ?_
    obtain rfl := Option.some.inj H
    refine rt1 (u8 x1) rfl rfl rfl s25_10 ?_
    exact ⟨rfl, hE10⟩

/-! largesse/largesseref03.Mul -/
noncomputable def ref03_Mul (a0p : List UInt8) (a1q : List UInt8) : Option (List UInt8) :=
((makeL ((wI ((a0p.length : Int) + (a1q.length : Int)))) (0 : UInt8)).bind fun c1 =>
((iterC (fun s4 : List UInt8 × Int =>
(if s4.2 < (a0p.length : Int) then
((idx a0p s4.2).bind fun c7 =>
((iterC (fun s8 : List UInt8 × Int =>
(if s8.2 < (a1q.length : Int) then
((idx a1q s8.2).bind fun c11 =>
((idx s8.1 ((wI (s4.2 + s8.2)))).bind fun c14 =>
((ref02_Mul c7 c11).bind fun r15 => some (.inl ((s8.1.set ((wI (s4.2 + s8.2)) : Int).toNat ((c14 ^^^ r15))), (wI (s8.2 + 1)))))))
else some (.inr s8.1))) (s4.1, 0)).bind fun x8 => some (.inl (x8, (wI (s4.2 + 1))))))
else some (.inr s4.1))) (c1, 0)).bind fun x4 =>
((ref03_Trim x4).bind fun r24 => some r24)))
set_option maxRecDepth 100000 in
set_option maxHeartbeats 8000000 in
theorem ref03_Mul_calls (a0p : List UInt8) (a1q : List UInt8) (p0 : Value) (p1 : Value) (r : List UInt8) (w0 : World) (hp0 : By w0 [] p0 a0p) (hp1 : By w0 [] p1 a1q) (H : ref03_Mul a0p a1q = some r) :
    Calls Try.prog 55 [p0, p1].toArray w0 (fun e w' => ∃ u0 : Value, e = .returned u0 ∧ Ext w0 w' ∧ Nw w0 u0 ∧ OwK (Sc u8) w' [] 5 u0 r) := by
  have hE : Ext w0 w0 := Ext.refl w0
  unfold ref03_Mul at H
  refine calls_W (n := 49) Try.func55 rfl rfl rfl ?_
  refine W_seq ?_
  refine W_reg (by kernel_rfl) ?_
  refine wla rfl rfl (q_assign (v := (.slice none 0 0)) rfl rfl) ?_
  refine wl_nil ?_
  refine W_th ?_
  refine W_seq ?_
  refine W_reg (by kernel_rfl) ?_
  refine wla rfl rfl (q_move (v := p0) rfl rfl) ?_
  refine wla rfl rfl (q_len rfl T22.sl rfl (hp0.lift (Lift.ext hE _))) ?_
  refine wla rfl rfl (q_move (v := p1) rfl rfl) ?_
  refine wla rfl rfl (q_len rfl T22.sl rfl (hp1.lift (Lift.ext hE _))) ?_
  refine wla rfl rfl (q_addI rfl rfl rfl) ?_
  obtain ⟨c1, hc1, H⟩ := Option.bind_eq_some_iff.1 H
  refine wls rfl rfl (stp_make (L := []) (R := (Sc u8)) rfl T22 rfl rfl hc1 (fun _ _ => rfl) ?_)
  intro v1 w1 o1 n1 g1 l1
  have x1 := grown_ext g1
  have n3 := Nw.ext hE n1
  have e2 := hE.trans x1
  refine wla rfl rfl (q_assign (v := v1) rfl rfl) ?_
  refine wl_nil ?_
  refine W_th ?_
  refine W_seq ?_
  refine W_seq ?_
  refine W_reg (by kernel_rfl) ?_
  refine wla rfl rfl (q_move (v := p0) rfl rfl) ?_
  refine wla rfl rfl (q_len rfl T22.sl rfl (hp0.lift (Lift.ext e2 _))) ?_
  refine wla rfl rfl (q_move (v := (i64 0)) rfl rfl) ?_
  refine wl_nil ?_
  refine W_th ?_
  obtain ⟨x4, G4, H⟩ := Option.bind_eq_some_iff.1 H
  refine W_mid (fun f w => f 5 = v1 ∧ f 49 = undef ∧ Ext w0 w ∧ OwK (Sc u8) w [v1] 5 v1 x4 ∧ Nw w0 v1) ?_ ?_
  · refine W_block ?_
    refine W_loop (fun s4 f w => f 1 = p1 ∧ f 5 = v1 ∧ f 16 = p0 ∧ f 17 = (i64 ((a0p.length : Int))) ∧ f 18 = (i64 s4.2) ∧ f 49 = undef ∧ Ext w0 w ∧ OwK (Sc u8) w [v1] 5 v1 s4.1 ∧ Nw w0 v1) G4 ?_ ?_
    · exact ⟨rfl, rfl, rfl, rfl, rfl, rfl, e2, o1, n3⟩
    · rintro s4 _ _ w5 ⟨s1_5, s5_5, s16_5, s17_5, s18_5, s49_5, hE5, o0_5, n0_5⟩ H4 hr4
      refine W_seq ?_
      refine W_reg (by kernel_rfl) ?_
      refine wla rfl rfl (q_ltI rfl s18_5 s17_5) ?_
      refine wl_nil ?_
      refine W_th ?_
      refine W_seq ?_
      refine W_cond _ rfl rfl (fun hb6 => ?_) (fun hb6 => ?_)
      · replace H4 := (if_pos (of_decide_eq_true hb6)).symm.trans H4
        refine W_skip ?_
        refine W_th ?_
        refine W_seq ?_
        refine W_block ?_
        refine W_seq ?_
        refine W_reg (by kernel_rfl) ?_
        refine wla rfl rfl (q_move (v := (i64 s4.2)) rfl s18_5) ?_
        obtain ⟨c7, hc7, H4⟩ := Option.bind_eq_some_iff.1 H4
        refine wla rfl rfl (q_adr rfl T22 s16_5 s18_5 (hp0.lift (Lift.ext hE5 _)) hc7) ?_
        refine wlq rfl rfl (q_loadS rfl T22 rfl (hp0.lift (Lift.ext hE5 _)) hc7) ?_
        refine wla rfl rfl (q_assign (v := (i64 s4.2)) rfl rfl) ?_
        refine wla rfl rfl (q_assign (v := (u8 c7)) rfl rfl) ?_
        refine wl_nil ?_
        refine W_th ?_
        refine W_seq ?_
        refine W_reg (by kernel_rfl) ?_
        refine wla rfl rfl (q_move (v := p1) rfl s1_5) ?_
        refine wla rfl rfl (q_len rfl T22.sl rfl (hp1.lift (Lift.ext hE5 _))) ?_
        refine wla rfl rfl (q_move (v := (i64 0)) rfl rfl) ?_
        refine wl_nil ?_
        refine W_th ?_
        obtain ⟨x8, G8, H4⟩ := Option.bind_eq_some_iff.1 H4
        refine W_mid (fun f w => f 1 = p1 ∧ f 5 = v1 ∧ f 16 = p0 ∧ f 17 = (i64 ((a0p.length : Int))) ∧ f 18 = (i64 s4.2) ∧ f 49 = undef ∧ Ext w0 w ∧ OwK (Sc u8) w [v1] 5 v1 x8 ∧ Nw w0 v1) ?_ ?_
        · refine W_block ?_
          refine W_loop (fun s8 f w => f 1 = p1 ∧ f 5 = v1 ∧ f 6 = (i64 s4.2) ∧ f 7 = (u8 c7) ∧ f 16 = p0 ∧ f 17 = (i64 ((a0p.length : Int))) ∧ f 18 = (i64 s4.2) ∧ f 23 = p1 ∧ f 24 = (i64 ((a1q.length : Int))) ∧ f 25 = (i64 s8.2) ∧ f 49 = undef ∧ Ext w0 w ∧ OwK (Sc u8) w [v1] 5 v1 s8.1 ∧ Nw w0 v1) G8 ?_ ?_
          · exact ⟨s1_5, s5_5, rfl, rfl, s16_5, s17_5, s18_5, rfl, rfl, rfl, s49_5, hE5, o0_5, n0_5⟩
          · rintro s8 _ _ w9 ⟨s1_9, s5_9, s6_9, s7_9, s16_9, s17_9, s18_9, s23_9, s24_9, s25_9, s49_9, hE9, o0_9, n0_9⟩ H8 hr8
            refine W_seq ?_
            refine W_reg (by kernel_rfl) ?_
            refine wla rfl rfl (q_ltI rfl s25_9 s24_9) ?_
            refine wl_nil ?_
            refine W_th ?_
            refine W_seq ?_
            refine W_cond _ rfl rfl (fun hb10 => ?_) (fun hb10 => ?_)
            · replace H8 := (if_pos (of_decide_eq_true hb10)).symm.trans H8
              refine W_skip ?_
              refine W_th ?_
              refine W_seq ?_
              refine W_block ?_
              refine W_seq ?_
              refine W_reg (by kernel_rfl) ?_
              refine wla rfl rfl (q_move (v := (i64 s8.2)) rfl s25_9) ?_
              obtain ⟨c11, hc11, H8⟩ := Option.bind_eq_some_iff.1 H8
              refine wla rfl rfl (q_adr rfl T22 s23_9 s25_9 (hp1.lift (Lift.ext hE9 _)) hc11) ?_
              refine wlq rfl rfl (q_loadS rfl T22 rfl (hp1.lift (Lift.ext hE9 _)) hc11) ?_
              refine wla rfl rfl (q_assign (v := (i64 s8.2)) rfl rfl) ?_
              refine wla rfl rfl (q_assign (v := (u8 c11)) rfl rfl) ?_
              refine wl_nil ?_
              refine W_th ?_
              refine W_draw [9] [(0, 0), (1, 0), (2, 0), (3, 0), (4, 0), (5, 0), (6, 0), (7, 0), (8, 0), (9, 1), (10, 0), (11, 0), (12, 2), (13, 0), (14, 0), (15, 2)] mixed (by kernel_rfl) (by kernel_rfl) (by kernel_rfl) (by kernel_rfl) ?_
              have x12 := Ext.drew w9
              replace o0_9 := o0_9.extL (Sc.stab _) x12 (Lift.ext x12 _)
              have e13 := hE9.trans x12
              refine wsa rfl rfl rfl (q_move (v := v1) rfl s5_9) ?_
              refine wsa rfl rfl rfl (q_move (v := (i64 s4.2)) rfl s6_9) ?_
              refine wsa rfl rfl rfl (q_move (v := (i64 s8.2)) rfl rfl) ?_
              refine wsa rfl rfl rfl (q_addI rfl rfl rfl) ?_
              refine wsa rfl rfl rfl (q_move (v := v1) rfl s5_9) ?_
              refine wsa rfl rfl rfl (q_move (v := (i64 s4.2)) rfl s6_9) ?_
              refine wsa rfl rfl rfl (q_move (v := (i64 s8.2)) rfl rfl) ?_
              refine wsa rfl rfl rfl (q_addI rfl rfl rfl) ?_
              obtain ⟨c14, hc14, H8⟩ := Option.bind_eq_some_iff.1 H8
              refine wsa rfl rfl rfl (q_adr rfl T22 rfl rfl (o0_9.rd (Sc.stab _)) hc14) ?_
              refine wsq rfl rfl rfl (q_loadS rfl T22 rfl (o0_9.rd (Sc.stab _)) hc14) ?_
              refine wsa rfl rfl rfl (q_move (v := (u8 c7)) rfl s7_9) ?_
              refine wsa rfl rfl rfl (q_move (v := (u8 c11)) rfl rfl) ?_
              obtain ⟨r15, hr15, H8⟩ := Option.bind_eq_some_iff.1 H8
              refine wss rfl rfl rfl (stp_call (vs := [(u8 c7), (u8 c11)]) Try.func48 rfl rfl rfl (ar2 rfl rfl) (ref02_Mul_calls c7 c11  r15 _  hr15) ?_)
              rintro _ w15 ⟨rfl, x15⟩
              refine ⟨_, rfl, x15, ?_⟩
              replace o0_9 := o0_9.extL (Sc.stab _) x15 (Lift.ext x15 _)
              have e16 := e13.trans x15
              refine wsa rfl rfl rfl (q_xor8 rfl rfl rfl) ?_
              refine wsa rfl rfl rfl (q_adr rfl T22 rfl rfl (o0_9.rd (Sc.stab _)) hc14) ?_
              refine wsn rfl (by kernel_rfl) rfl rfl (stp_store (R := (Sc u8)) (u := (u8 ((c14 ^^^ r15)))) (Sc.stab _) [] [] rfl T22 rfl rfl o0_9 (put_of ((c14 ^^^ r15)) hc14) rfl rfl ?_)
              intro w17 o17 g17 l17
              have e18 := e16.grown g17 n0_9
              refine ws_nil ?_
              refine bk_n ?_
              refine W_th ?_
              refine W_reg (by kernel_rfl) ?_
              refine wla rfl rfl (q_addI rfl s25_9 rfl) ?_
              refine wla rfl rfl (q_move (v := (i64 ((wI (s8.2 + 1))))) rfl rfl) ?_
              refine wl_nil ?_
              obtain rfl := Option.some.inj H8
              exact ⟨_, rfl, s1_9, s5_9, s6_9, s7_9, s16_9, s17_9, s18_9, s23_9, s24_9, rfl, s49_9, e18, o17, n0_9⟩
            · replace H8 := (if_neg (of_decide_eq_false hb10)).symm.trans H8
              refine W_exit ?_
              refine th_x ?_
              obtain rfl := Option.some.inj H8
              obtain rfl := hr8 _ rfl
              refine th_x ?_
              refine bk_x ?_
              exact ⟨s1_9, s5_9, s16_9, s17_9, s18_9, s49_9, hE9, o0_9, n0_9⟩
        · rintro _ w20 ⟨s1_20, s5_20, s16_20, s17_20, s18_20, s49_20, hE20, o0_20, n0_20⟩
          refine bk_n ?_
          refine W_th ?_
          refine W_reg (by kernel_rfl) ?_
          refine wla rfl rfl (q_addI rfl s18_20 rfl) ?_
          refine wla rfl rfl (q_move (v := (i64 ((wI (s4.2 + 1))))) rfl rfl) ?_
          refine wl_nil ?_
          obtain rfl := Option.some.inj H4
          exact ⟨_, rfl, s1_20, s5_20, s16_20, s17_20, rfl, s49_20, hE20, o0_20, n0_20⟩
      · replace H4 := (if_neg (of_decide_eq_false hb6)).symm.trans H4
        refine W_exit ?_
        refine th_x ?_
        obtain rfl := Option.some.inj H4
        obtain rfl := hr4 _ rfl
        refine th_x ?_
        refine bk_x ?_
        exact ⟨s5_5, s49_5, hE5, o0_5, n0_5⟩
  · rintro _ w23 ⟨s5_23, s49_23, hE23, o0_23, n0_23⟩
    refine W_th ?_
    refine W_seq ?_
    refine W_reg (by kernel_rfl) ?_
    refine wla rfl rfl (q_move (v := v1) rfl s5_23) ?_
    obtain ⟨r24, hr24, H⟩ := Option.bind_eq_some_iff.1 H
    refine wls rfl rfl (stp_call (vs := [v1]) Try.func56 rfl rfl rfl (ar1 rfl) (ref03_Trim_calls x4 v1 r24 _ (o0_23.rd (Sc.stab _)) hr24) ?_)
    rintro _ w24 ⟨v24, rfl, x24, n24_0, o24_0⟩
    refine ⟨_, rfl, ?_⟩
    have o24 : OwK (Sc u8) w24 (v24 :: [v1]) 5 v24 r24 := OwK.scal o24_0 _
    have q25 : Nq v1 v24 := o0_23.nq n24_0
    replace o0_23 := o0_23.extL (Sc.stab _) x24 (Lift.call _ x24 n24_0)
    have n27 := Nw.ext hE23 n24_0
    have e26 := hE23.trans x24
    refine wla rfl rfl (q_assign (v := v24) rfl rfl) ?_
    refine wl_nil ?_
    refine W_th ?_
    refine W_ret ?_
    obtain rfl := Option.some.inj H
    refine rt1 v24 rfl rfl rfl s49_23 ?_
    exact ⟨v24, rfl, e26, n27, (o24.weak (Sc.stab _) (fun _ _ => trivial))⟩

/-! largesse/largesseref03.Places -/
noncomputable def ref03_Places (a0xs : List UInt8) : Option Int :=
(if (a0xs.length : Int) = 0 then some 5
else
(if 255 < (a0xs.length : Int) then some 4
else
((iterC (fun s3 : Int =>
(if s3 < (a0xs.length : Int) then
((iterC (fun s6 : Int =>
(if s6 < s3 then
((idx a0xs s3).bind fun c11 =>
((idx a0xs s6).bind fun c12 =>
(if c11 = c12 then some (.inr (.inr 6))
else some (.inl (wI (s6 + 1))))))
else some (.inr (.inl ())))) 0).bind (Sum.elim (fun y6 => some (.inl (wI (s3 + 1)))) (fun q6 => some (.inr (.inr q6)))))
else some (.inr (.inl ())))) 0).bind (Sum.elim (fun y3 => some 0) (fun q3 => some q3)))))
set_option maxRecDepth 100000 in
set_option maxHeartbeats 8000000 in
theorem ref03_Places_calls (a0xs : List UInt8) (p0 : Value) (r : Int) (w0 : World) (hp0 : By w0 [] p0 a0xs) (H : ref03_Places a0xs = some r) :
    Calls Try.prog 13 [p0].toArray w0 (fun e w' => e = .returned (i64 r) ∧ Ext w0 w') := by
  have hE : Ext w0 w0 := Ext.refl w0
  unfold ref03_Places at H
  refine calls_W (n := 31) Try.func13 rfl rfl rfl ?_
  refine W_seq ?_
  refine W_reg (by kernel_rfl) ?_
  refine wla rfl rfl (q_assign (v := (i64 0)) rfl rfl) ?_
  refine wl_nil ?_
  refine W_th ?_
  refine W_seq ?_
  refine W_seq ?_
  refine W_reg (by kernel_rfl) ?_
  refine wla rfl rfl (q_move (v := p0) rfl rfl) ?_
  refine wla rfl rfl (q_len rfl T22.sl rfl (hp0.lift (Lift.ext hE _))) ?_
  refine wla rfl rfl (q_eqI rfl rfl rfl) ?_
  refine wl_nil ?_
  refine W_th ?_
  refine W_cond _ rfl rfl (fun hb1 => ?_) (fun hb1 => ?_)
  · replace H := (if_pos (of_decide_eq_true hb1)).symm.trans H
    refine W_seq ?_
    refine W_reg (by kernel_rfl) ?_
    refine wla rfl rfl (q_assign (v := (i64 5)) rfl rfl) ?_
    refine wl_nil ?_
    refine W_th ?_
    refine W_ret ?_
    refine th_r ?_
    obtain rfl := Option.some.inj H
    refine rt1 (i64 5) rfl rfl rfl rfl ?_
    exact ⟨rfl, hE⟩
  · replace H := (if_neg (of_decide_eq_false hb1)).symm.trans H
    refine W_skip ?_
    refine W_th ?_
    refine W_seq ?_
    refine W_seq ?_
    refine W_reg (by kernel_rfl) ?_
    refine wla rfl rfl (q_move (v := p0) rfl rfl) ?_
    refine wla rfl rfl (q_len rfl T22.sl rfl (hp0.lift (Lift.ext hE _))) ?_
    refine wla rfl rfl (q_gtI rfl rfl rfl) ?_
    refine wl_nil ?_
    refine W_th ?_
    refine W_cond _ rfl rfl (fun hb2 => ?_) (fun hb2 => ?_)
    · replace H := (if_pos (of_decide_eq_true hb2)).symm.trans H
      refine W_seq ?_
      refine W_reg (by kernel_rfl) ?_
      refine wla rfl rfl (q_assign (v := (i64 4)) rfl rfl) ?_
      refine wl_nil ?_
      refine W_th ?_
      refine W_ret ?_
      refine th_r ?_
      obtain rfl := Option.some.inj H
      refine rt1 (i64 4) rfl rfl rfl rfl ?_
      exact ⟨rfl, hE⟩
    · replace H := (if_neg (of_decide_eq_false hb2)).symm.trans H
      refine W_skip ?_
      refine W_th ?_
      refine W_seq ?_
      refine W_seq ?_
      refine W_reg (by kernel_rfl) ?_
      refine wla rfl rfl (q_move (v := p0) rfl rfl) ?_
      refine wla rfl rfl (q_len rfl T22.sl rfl (hp0.lift (Lift.ext hE _))) ?_
      refine wla rfl rfl (q_move (v := (i64 0)) rfl rfl) ?_
      refine wl_nil ?_
      refine W_th ?_
      obtain ⟨x3, G3, H⟩ := Option.bind_eq_some_iff.1 H
      refine W_mid (fun f w => ∃ y3, x3 = .inl y3 ∧ f 31 = undef ∧ Ext w0 w) ?_ ?_
      · refine W_block ?_
        refine W_loop (fun s3 f w => f 0 = p0 ∧ f 12 = (i64 ((a0xs.length : Int))) ∧ f 13 = (i64 s3) ∧ f 31 = undef ∧ Ext w0 w) G3 ?_ ?_
        · exact ⟨rfl, rfl, rfl, rfl, hE⟩
        · rintro s3 _ _ w4 ⟨s0_4, s12_4, s13_4, s31_4, hE4⟩ H3 hr3
          refine W_seq ?_
          refine W_reg (by kernel_rfl) ?_
          refine wla rfl rfl (q_ltI rfl s13_4 s12_4) ?_
          refine wl_nil ?_
          refine W_th ?_
          refine W_seq ?_
          refine W_cond _ rfl rfl (fun hb5 => ?_) (fun hb5 => ?_)
          · replace H3 := (if_pos (of_decide_eq_true hb5)).symm.trans H3
            refine W_skip ?_
            refine W_th ?_
            refine W_seq ?_
            refine W_block ?_
            refine W_seq ?_
            refine W_reg (by kernel_rfl) ?_
            refine wla rfl rfl (q_move (v := (i64 s3)) rfl s13_4) ?_
            refine wla rfl rfl (q_assign (v := (i64 s3)) rfl rfl) ?_
            refine wl_nil ?_
            refine W_th ?_
            refine W_seq ?_
            refine W_reg (by kernel_rfl) ?_
            refine wla rfl rfl (q_assign (v := (i64 0)) rfl rfl) ?_
            refine wl_nil ?_
            refine W_th ?_
            obtain ⟨x6, G6, H3⟩ := Option.bind_eq_some_iff.1 H3
            refine W_mid (fun f w => ∃ y6, x6 = .inl y6 ∧ f 0 = p0 ∧ f 12 = (i64 ((a0xs.length : Int))) ∧ f 13 = (i64 s3) ∧ f 31 = undef ∧ Ext w0 w) ?_ ?_
            · refine W_block ?_
              refine W_loop (fun s6 f w => f 0 = p0 ∧ f 3 = (i64 s3) ∧ f 4 = (i64 s6) ∧ f 12 = (i64 ((a0xs.length : Int))) ∧ f 13 = (i64 s3) ∧ f 31 = undef ∧ Ext w0 w) G6 ?_ ?_
              · exact ⟨s0_4, rfl, rfl, s12_4, s13_4, s31_4, hE4⟩
              · rintro s6 _ _ w7 ⟨s0_7, s3_7, s4_7, s12_7, s13_7, s31_7, hE7⟩ H6 hr6
                refine W_seq ?_
                refine W_seq ?_
                refine W_reg (by kernel_rfl) ?_
                refine wla rfl rfl (q_move (v := (i64 s6)) rfl s4_7) ?_
                refine wla rfl rfl (q_move (v := (i64 s3)) rfl s3_7) ?_
                refine wla rfl rfl (q_ltI rfl rfl rfl) ?_
                refine wl_nil ?_
                refine W_th ?_
                refine W_cond _ rfl rfl (fun hb8 => ?_) (fun hb8 => ?_)
                · replace H6 := (if_pos (of_decide_eq_true hb8)).symm.trans H6
                  refine W_skip ?_
                  refine W_th ?_
                  refine W_seq ?_
                  refine W_block ?_
                  refine W_seq ?_
                  refine W_draw [3, 7] [(0, 0), (1, 0), (2, 0), (3, 1), (4, 0), (5, 0), (6, 0), (7, 1), (8, 0)] mixed (by kernel_rfl) (by kernel_rfl) (by kernel_rfl) (by kernel_rfl) ?_
                  have x9 := Ext.drew w7
                  have e10 := hE7.trans x9
                  refine wsa rfl rfl rfl (q_move (v := p0) rfl s0_7) ?_
                  refine wsa rfl rfl rfl (q_move (v := (i64 s3)) rfl s3_7) ?_
                  obtain ⟨c11, hc11, H6⟩ := Option.bind_eq_some_iff.1 H6
                  refine wsa rfl rfl rfl (q_adr rfl T22 rfl rfl (hp0.lift (Lift.ext e10 _)) hc11) ?_
                  refine wsq rfl rfl rfl (q_loadS rfl T22 rfl (hp0.lift (Lift.ext e10 _)) hc11) ?_
                  refine wsa rfl rfl rfl (q_move (v := p0) rfl s0_7) ?_
                  refine wsa rfl rfl rfl (q_move (v := (i64 s6)) rfl s4_7) ?_
                  obtain ⟨c12, hc12, H6⟩ := Option.bind_eq_some_iff.1 H6
                  refine wsa rfl rfl rfl (q_adr rfl T22 rfl rfl (hp0.lift (Lift.ext e10 _)) hc12) ?_
                  refine wsq rfl rfl rfl (q_loadS rfl T22 rfl (hp0.lift (Lift.ext e10 _)) hc12) ?_
                  refine wsa rfl rfl rfl (q_eq8 rfl rfl rfl) ?_
                  refine ws_nil ?_
                  refine W_th ?_
                  refine W_cond _ rfl rfl (fun hb13 => ?_) (fun hb13 => ?_)
                  · replace H6 := (if_pos (of_decide_eq_true hb13)).symm.trans H6
                    refine W_seq ?_
                    refine W_reg (by kernel_rfl) ?_
                    refine wla rfl rfl (q_assign (v := (i64 6)) rfl rfl) ?_
                    refine wl_nil ?_
                    refine W_th ?_
                    refine W_ret ?_
                    refine bk_r ?_
                    refine th_r ?_
                    obtain rfl := Option.some.inj H6
                    obtain rfl := hr6 _ rfl
                    simp only [Sum.elim_inr] at H3
                    refine th_r ?_
                    refine bk_r ?_
                    refine th_r ?_
                    refine bk_r ?_
                    refine th_r ?_
                    obtain rfl := Option.some.inj H3
                    obtain rfl := hr3 _ rfl
                    simp only [Sum.elim_inr] at H
                    refine th_r ?_
                    refine bk_r ?_
                    refine th_r ?_
                    refine th_r ?_
                    obtain rfl := Option.some.inj H
                    refine rt1 (i64 6) rfl rfl rfl s31_7 ?_
                    exact ⟨rfl, e10⟩
                  · replace H6 := (if_neg (of_decide_eq_false hb13)).symm.trans H6
                    refine W_skip ?_
                    refine bk_n ?_
                    refine W_th ?_
                    refine W_reg (by kernel_rfl) ?_
                    refine wla rfl rfl (q_move (v := (i64 s6)) rfl s4_7) ?_
                    refine wla rfl rfl (q_addI rfl rfl rfl) ?_
                    refine wla rfl rfl (q_assign (v := (i64 ((wI (s6 + 1))))) rfl rfl) ?_
                    refine wl_nil ?_
                    obtain rfl := Option.some.inj H6
                    exact ⟨_, rfl, s0_7, s3_7, rfl, s12_7, s13_7, s31_7, e10⟩
                · replace H6 := (if_neg (of_decide_eq_false hb8)).symm.trans H6
                  refine W_exit ?_
                  refine th_x ?_
                  obtain rfl := Option.some.inj H6
                  obtain rfl := hr6 _ rfl
                  refine th_x ?_
                  refine bk_x ?_
                  exact ⟨_, rfl, s0_7, s12_7, s13_7, s31_7, hE7⟩
            · rintro _ w15 ⟨y6, rfl, s0_15, s12_15, s13_15, s31_15, hE15⟩
              simp only [Sum.elim_inl] at H3
              refine bk_n ?_
              refine W_th ?_
              refine W_reg (by kernel_rfl) ?_
              refine wla rfl rfl (q_addI rfl s13_15 rfl) ?_
              refine wla rfl rfl (q_move (v := (i64 ((wI (s3 + 1))))) rfl rfl) ?_
              refine wl_nil ?_
              obtain rfl := Option.some.inj H3
              exact ⟨_, rfl, s0_15, s12_15, rfl, s31_15, hE15⟩
          · replace H3 := (if_neg (of_decide_eq_false hb5)).symm.trans H3
            refine W_exit ?_
            refine th_x ?_
            obtain rfl := Option.some.inj H3
            obtain rfl := hr3 _ rfl
            refine th_x ?_
            refine bk_x ?_
            exact ⟨_, rfl, s31_4, hE4⟩
      · rintro _ w18 ⟨y3, rfl, s31_18, hE18⟩
        simp only [Sum.elim_inl] at H
        refine W_th ?_
        refine W_seq ?_
        refine W_reg (by kernel_rfl) ?_
        refine wla rfl rfl (q_assign (v := (i64 0)) rfl rfl) ?_
        refine wl_nil ?_
        refine W_th ?_
        refine W_ret ?_
        obtain rfl := Option.some.inj H
        refine rt1 (i64 0) rfl rfl rfl s31_18 ?_
        exact ⟨rfl, hE18⟩

/-! largesse/largesseref03.Through -/
noncomputable def ref03_Through (a0xs : List UInt8) (a1ys : List UInt8) : Option (List UInt8) :=
((makeL ((a0xs.length : Int)) (0 : UInt8)).bind fun c1 =>
((iterC (fun s4 : List UInt8 × Int =>
(if s4.2 < (a0xs.length : Int) then
((idx a1ys s4.2).bind fun c7 =>
((iterC (fun s10 : List UInt8 × Int =>
(if s10.2 < (a0xs.length : Int) then
(if s10.2 = s4.2 then some (.inl (s10.1, (wI (s10.2 + 1))))
else
((idx a0xs s4.2).bind fun c16 =>
((idx a0xs s10.2).bind fun c17 =>
((ref02_Inv (c16 ^^^ c17)).bind fun r18 =>
((idx a0xs s10.2).bind fun c20 =>
((ref02_Mul r18 c20).bind fun r21 =>
((ref03_Mul s10.1 ([r21, r18] : List UInt8)).bind fun r25 => some (.inl (r25, (wI (s10.2 + 1)))))))))))
else some (.inr s10.1))) (([c7] : List UInt8), 0)).bind fun x10 =>
((iterC (fun s29 : List UInt8 × Int =>
(if s29.2 < (x10.length : Int) then
((idx s29.1 s29.2).bind fun c34 =>
((idx x10 s29.2).bind fun c35 => some (.inl ((s29.1.set (s29.2 : Int).toNat ((c34 ^^^ c35))), (wI (s29.2 + 1))))))
else some (.inr s29.1))) (s4.1, 0)).bind fun x29 => some (.inl (x29, (wI (s4.2 + 1)))))))
else some (.inr s4.1))) (c1, 0)).bind fun x4 =>
((ref03_Trim x4).bind fun r44 => some r44)))
set_option maxRecDepth 100000 in
set_option maxHeartbeats 8000000 in
theorem ref03_Through_calls (a0xs : List UInt8) (a1ys : List UInt8) (p0 : Value) (p1 : Value) (r : List UInt8) (w0 : World) (hp0 : By w0 [] p0 a0xs) (hp1 : By w0 [] p1 a1ys) (H : ref03_Through a0xs a1ys = some r) :
    Calls Try.prog 26 [p0, p1].toArray w0 (fun e w' => ∃ u0 : Value, e = .returned u0 ∧ Ext w0 w' ∧ Nw w0 u0 ∧ OwK (Sc u8) w' [] 5 u0 r) := by
  have hE : Ext w0 w0 := Ext.refl w0
  unfold ref03_Through at H
  refine calls_W (n := 74) Try.func26 rfl rfl rfl ?_
  refine W_seq ?_
  refine W_reg (by kernel_rfl) ?_
  refine wla rfl rfl (q_assign (v := (.slice none 0 0)) rfl rfl) ?_
  refine wl_nil ?_
  refine W_th ?_
  refine W_seq ?_
  refine W_reg (by kernel_rfl) ?_
  refine wla rfl rfl (q_move (v := p0) rfl rfl) ?_
  refine wla rfl rfl (q_len rfl T22.sl rfl (hp0.lift (Lift.ext hE _))) ?_
  obtain ⟨c1, hc1, H⟩ := Option.bind_eq_some_iff.1 H
  refine wls rfl rfl (stp_make (L := []) (R := (Sc u8)) rfl T22 rfl rfl hc1 (fun _ _ => rfl) ?_)
  intro v1 w1 o1 n1 g1 l1
  have x1 := grown_ext g1
  have n3 := Nw.ext hE n1
  have e2 := hE.trans x1
  refine wla rfl rfl (q_assign (v := v1) rfl rfl) ?_
  refine wl_nil ?_
  refine W_th ?_
  refine W_seq ?_
  refine W_seq ?_
  refine W_reg (by kernel_rfl) ?_
  refine wla rfl rfl (q_move (v := p0) rfl rfl) ?_
  refine wla rfl rfl (q_len rfl T22.sl rfl (hp0.lift (Lift.ext e2 _))) ?_
  refine wla rfl rfl (q_move (v := (i64 0)) rfl rfl) ?_
  refine wl_nil ?_
  refine W_th ?_
  obtain ⟨x4, G4, H⟩ := Option.bind_eq_some_iff.1 H
  refine W_mid (fun f w => f 5 = v1 ∧ f 74 = undef ∧ Ext w0 w ∧ OwK (Sc u8) w [v1] 5 v1 x4 ∧ Nw w0 v1) ?_ ?_
  · refine W_block ?_
    refine W_loop (fun s4 f w => f 0 = p0 ∧ f 1 = p1 ∧ f 5 = v1 ∧ f 15 = (i64 ((a0xs.length : Int))) ∧ f 16 = (i64 s4.2) ∧ f 74 = undef ∧ Ext w0 w ∧ OwK (Sc u8) w [v1] 5 v1 s4.1 ∧ Nw w0 v1) G4 ?_ ?_
    · exact ⟨rfl, rfl, rfl, rfl, rfl, rfl, e2, o1, n3⟩
    · rintro s4 _ _ w5 ⟨s0_5, s1_5, s5_5, s15_5, s16_5, s74_5, hE5, o0_5, n0_5⟩ H4 hr4
      refine W_seq ?_
      refine W_reg (by kernel_rfl) ?_
      refine wla rfl rfl (q_ltI rfl s16_5 s15_5) ?_
      refine wl_nil ?_
      refine W_th ?_
      refine W_seq ?_
      refine W_cond _ rfl rfl (fun hb6 => ?_) (fun hb6 => ?_)
      · replace H4 := (if_pos (of_decide_eq_true hb6)).symm.trans H4
        refine W_skip ?_
        refine W_th ?_
        refine W_seq ?_
        refine W_block ?_
        refine W_seq ?_
        refine W_reg (by kernel_rfl) ?_
        refine wla rfl rfl (q_move (v := (i64 s4.2)) rfl s16_5) ?_
        refine wla rfl rfl (q_assign (v := (i64 s4.2)) rfl rfl) ?_
        refine wl_nil ?_
        refine W_th ?_
        refine W_seq ?_
        refine W_reg (by kernel_rfl) ?_
        refine wla rfl rfl (q_move (v := p1) rfl s1_5) ?_
        refine wla rfl rfl (q_move (v := (i64 s4.2)) rfl rfl) ?_
        obtain ⟨c7, hc7, H4⟩ := Option.bind_eq_some_iff.1 H4
        refine wla rfl rfl (q_adr rfl T22 rfl rfl (hp1.lift (Lift.ext hE5 _)) hc7) ?_
        refine wlq rfl rfl (q_loadS rfl T22 rfl (hp1.lift (Lift.ext hE5 _)) hc7) ?_
        refine wls rfl rfl (stp_lit (L := [v1]) (R := (Sc u8)) [(u8 c7)] ([c7] : List UInt8) rfl T22 rfl (by exact ⟨rfl, rfl, trivial⟩) rfl (litC u8 (oneC_u8) (us := [(u8 c7)]) (l := ([c7] : List UInt8)) rfl) rfl (litS u8 (us := [(u8 c7)]) (l := ([c7] : List UInt8)) rfl) ?_)
        intro v8 w8 o8 n8 g8 l8
        have x8 := grown_ext g8
        have i8 : By w8 [v1] v8 (([c7] : List UInt8)) := OwK.slk (Sc.stab _) _ o8 (fun k hk => (Old.cons (Old.nil _) o0_5.lt) k (n8 k hk)) (fun _ h => h.2)
        replace o0_5 := o0_5.extL (Sc.stab _) x8 (Lift.ext x8 _)
        have e9 := hE5.trans x8
        refine wla rfl rfl (q_assign (v := v8) rfl rfl) ?_
        refine wl_nil ?_
        refine W_th ?_
        refine W_seq ?_
        refine W_seq ?_
        refine W_reg (by kernel_rfl) ?_
        refine wla rfl rfl (q_move (v := p0) rfl s0_5) ?_
        refine wla rfl rfl (q_len rfl T22.sl rfl (hp0.lift (Lift.ext e9 _))) ?_
        refine wla rfl rfl (q_move (v := (i64 0)) rfl rfl) ?_
        refine wl_nil ?_
        refine W_th ?_
        obtain ⟨x10, G10, H4⟩ := Option.bind_eq_some_iff.1 H4
        refine W_mid (fun f w => ∃ v7_41 : Value, f 0 = p0 ∧ f 1 = p1 ∧ f 5 = v1 ∧ f 7 = v7_41 ∧ f 15 = (i64 ((a0xs.length : Int))) ∧ f 16 = (i64 s4.2) ∧ f 74 = undef ∧ Ext w0 w ∧ OwK (Sc u8) w [v1] 5 v1 s4.1 ∧ Nw w0 v1 ∧ By w [v1] v7_41 x10) ?_ ?_
        · refine W_block ?_
          refine W_loop (fun s10 f w => ∃ v7_27 : Value, f 0 = p0 ∧ f 1 = p1 ∧ f 5 = v1 ∧ f 6 = (i64 s4.2) ∧ f 7 = v7_27 ∧ f 15 = (i64 ((a0xs.length : Int))) ∧ f 16 = (i64 s4.2) ∧ f 25 = (i64 ((a0xs.length : Int))) ∧ f 26 = (i64 s10.2) ∧ f 74 = undef ∧ Ext w0 w ∧ OwK (Sc u8) w [v1] 5 v1 s4.1 ∧ Nw w0 v1 ∧ By w [v1] v7_27 s10.1) G10 ?_ ?_
          · exact ⟨v8, s0_5, s1_5, s5_5, rfl, rfl, s15_5, s16_5, rfl, rfl, s74_5, e9, o0_5, n0_5, i8⟩
          · rintro s10 _ _ w11 ⟨v7_11, s0_11, s1_11, s5_11, s6_11, s7_11, s15_11, s16_11, s25_11, s26_11, s74_11, hE11, o0_11, n0_11, i0_11⟩ H10 hr10
            refine W_seq ?_
            refine W_reg (by kernel_rfl) ?_
            refine wla rfl rfl (q_ltI rfl s26_11 s25_11) ?_
            refine wl_nil ?_
            refine W_th ?_
            refine W_seq ?_
            refine W_cond _ rfl rfl (fun hb12 => ?_) (fun hb12 => ?_)
            · replace H10 := (if_pos (of_decide_eq_true hb12)).symm.trans H10
              refine W_skip ?_
              refine W_th ?_
              refine W_seq ?_
              refine W_block ?_
              refine W_seq ?_
              refine W_reg (by kernel_rfl) ?_
              refine wla rfl rfl (q_move (v := (i64 s10.2)) rfl s26_11) ?_
              refine wla rfl rfl (q_assign (v := (i64 s10.2)) rfl rfl) ?_
              refine wl_nil ?_
              refine W_th ?_
              refine W_seq ?_
              refine W_reg (by kernel_rfl) ?_
              refine wla rfl rfl (q_move (v := (i64 s10.2)) rfl rfl) ?_
              refine wla rfl rfl (q_move (v := (i64 s4.2)) rfl s6_11) ?_
              refine wla rfl rfl (q_neI rfl rfl rfl) ?_
              refine wl_nil ?_
              refine W_th ?_
              refine W_cond _ rfl rfl (fun hb13 => ?_) (fun hb13 => ?_)
              · replace H10 := (if_neg (ndec_t hb13)).symm.trans H10
                refine W_seq ?_
                refine W_draw [3, 7] [(0, 0), (1, 0), (2, 0), (3, 1), (4, 0), (5, 0), (6, 0), (7, 1), (8, 0), (9, 2), (10, 0)] mixed (by kernel_rfl) (by kernel_rfl) (by kernel_rfl) (by kernel_rfl) ?_
                have x14 := Ext.drew w11
                replace i0_11 := i0_11.lift (Lift.ext x14 _)
                replace o0_11 := o0_11.extL (Sc.stab _) x14 (Lift.ext x14 _)
                have e15 := hE11.trans x14
                refine wsa rfl rfl rfl (q_move (v := p0) rfl s0_11) ?_
                refine wsa rfl rfl rfl (q_move (v := (i64 s4.2)) rfl s6_11) ?_
                obtain ⟨c16, hc16, H10⟩ := Option.bind_eq_some_iff.1 H10
                refine wsa rfl rfl rfl (q_adr rfl T22 rfl rfl (hp0.lift (Lift.ext e15 _)) hc16) ?_
                refine wsq rfl rfl rfl (q_loadS rfl T22 rfl (hp0.lift (Lift.ext e15 _)) hc16) ?_
                refine wsa rfl rfl rfl (q_move (v := p0) rfl s0_11) ?_
                refine wsa rfl rfl rfl (q_move (v := (i64 s10.2)) rfl rfl) ?_
                obtain ⟨c17, hc17, H10⟩ := Option.bind_eq_some_iff.1 H10
                refine wsa rfl rfl rfl (q_adr rfl T22 rfl rfl (hp0.lift (Lift.ext e15 _)) hc17) ?_
                refine wsq rfl rfl rfl (q_loadS rfl T22 rfl (hp0.lift (Lift.ext e15 _)) hc17) ?_
                refine wsa rfl rfl rfl (q_xor8 rfl rfl rfl) ?_
                obtain ⟨r18, hr18, H10⟩ := Option.bind_eq_some_iff.1 H10
                refine wsc rfl (by kernel_rfl) rfl rfl (stp_call (vs := [(u8 ((c16 ^^^ c17)))]) Try.func54 rfl rfl rfl (ar1 rfl) (ref02_Inv_calls (c16 ^^^ c17)  r18 _  hr18) ?_)
                rintro _ w18 ⟨rfl, x18⟩
                refine ⟨_, rfl, ?_⟩
                replace i0_11 := i0_11.lift (Lift.ext x18 _)
                replace o0_11 := o0_11.extL (Sc.stab _) x18 (Lift.ext x18 _)
                have e19 := e15.trans x18
                refine wsa rfl rfl rfl (q_assign (v := (u8 r18)) rfl rfl) ?_
                refine ws_nil ?_
                refine W_th ?_
                refine W_reg (by kernel_rfl) ?_
                refine wla rfl rfl (q_move (v := v7_11) rfl s7_11) ?_
                refine wla rfl rfl (q_move (v := (u8 r18)) rfl rfl) ?_
                refine wla rfl rfl (q_move (v := p0) rfl s0_11) ?_
                refine wla rfl rfl (q_move (v := (i64 s10.2)) rfl rfl) ?_
                obtain ⟨c20, hc20, H10⟩ := Option.bind_eq_some_iff.1 H10
                refine wla rfl rfl (q_adr rfl T22 rfl rfl (hp0.lift (Lift.ext e19 _)) hc20) ?_
                refine wlq rfl rfl (q_loadS rfl T22 rfl (hp0.lift (Lift.ext e19 _)) hc20) ?_
                obtain ⟨r21, hr21, H10⟩ := Option.bind_eq_some_iff.1 H10
                refine wls rfl rfl (stp_call (vs := [(u8 r18), (u8 c20)]) Try.func48 rfl rfl rfl (ar2 rfl rfl) (ref02_Mul_calls r18 c20  r21 _  hr21) ?_)
                rintro _ w21 ⟨rfl, x21⟩
                refine ⟨_, rfl, ?_⟩
                replace i0_11 := i0_11.lift (Lift.ext x21 _)
                replace o0_11 := o0_11.extL (Sc.stab _) x21 (Lift.ext x21 _)
                have e22 := e19.trans x21
                refine wla rfl rfl (q_move (v := (u8 r18)) rfl rfl) ?_
                refine wls rfl rfl (stp_lit (L := [v1]) (R := (Sc u8)) [(u8 r21), (u8 r18)] ([r21, r18] : List UInt8) rfl T22 rfl (by exact ⟨rfl, rfl, rfl, rfl, trivial⟩) rfl (litC u8 (oneC_u8) (us := [(u8 r21), (u8 r18)]) (l := ([r21, r18] : List UInt8)) rfl) rfl (litS u8 (us := [(u8 r21), (u8 r18)]) (l := ([r21, r18] : List UInt8)) rfl) ?_)
                intro v23 w23 o23 n23 g23 l23
                have x23 := grown_ext g23
                have i23 : By w23 [v1] v23 (([r21, r18] : List UInt8)) := OwK.slk (Sc.stab _) _ o23 (fun k hk => (Old.cons (Old.nil _) o0_11.lt) k (n23 k hk)) (fun _ h => h.2)
                replace i0_11 := i0_11.lift (Lift.ext x23 _)
                replace o0_11 := o0_11.extL (Sc.stab _) x23 (Lift.ext x23 _)
                have e24 := e22.trans x23
                obtain ⟨r25, hr25, H10⟩ := Option.bind_eq_some_iff.1 H10
                refine wls rfl rfl (stp_call (vs := [v7_11, v23]) Try.func55 rfl rfl rfl (ar2 rfl rfl) (ref03_Mul_calls s10.1 ([r21, r18] : List UInt8) v7_11 v23 r25 _ (i0_11.lift (Lift.sub (fun _ _ => trivial))) (i23.lift (Lift.sub (fun _ _ => trivial))) hr25) ?_)
                rintro _ w25 ⟨v25, rfl, x25, n25_0, o25_0⟩
                refine ⟨_, rfl, ?_⟩
                have i25_0 : By w25 [v1] v25 r25 := OwK.slk (Sc.stab _) _ (OwK.scal o25_0 (v25 :: [v1])) (fun k hk => (Old.cons (Old.nil _) o0_11.lt) k (n25_0 k hk)) (fun _ h => h.2)
                replace i0_11 := i0_11.lift (Lift.ext x25 _)
                replace i23 := i23.lift (Lift.ext x25 _)
                replace o0_11 := o0_11.extL (Sc.stab _) x25 (Lift.ext x25 _)
                have e26 := e24.trans x25
                refine wla rfl rfl (q_assign (v := v25) rfl rfl) ?_
                refine wl_nil ?_
                refine bk_n ?_
                refine W_th ?_
                refine W_reg (by kernel_rfl) ?_
                refine wla rfl rfl (q_addI rfl s26_11 rfl) ?_
                refine wla rfl rfl (q_move (v := (i64 ((wI (s10.2 + 1))))) rfl rfl) ?_
                refine wl_nil ?_
                obtain rfl := Option.some.inj H10
                exact ⟨_, rfl, v25, s0_11, s1_11, s5_11, s6_11, rfl, s15_11, s16_11, s25_11, rfl, s74_11, e26, o0_11, n0_11, i25_0⟩
              · replace H10 := (if_pos (ndec_f hb13)).symm.trans H10
                refine W_skip ?_
                refine bk_n ?_
                refine W_th ?_
                refine W_reg (by kernel_rfl) ?_
                refine wla rfl rfl (q_addI rfl s26_11 rfl) ?_
                refine wla rfl rfl (q_move (v := (i64 ((wI (s10.2 + 1))))) rfl rfl) ?_
                refine wl_nil ?_
                obtain rfl := Option.some.inj H10
                exact ⟨_, rfl, v7_11, s0_11, s1_11, s5_11, s6_11, s7_11, s15_11, s16_11, s25_11, rfl, s74_11, hE11, o0_11, n0_11, i0_11⟩
            · replace H10 := (if_neg (of_decide_eq_false hb12)).symm.trans H10
              refine W_exit ?_
              refine th_x ?_
              obtain rfl := Option.some.inj H10
              obtain rfl := hr10 _ rfl
              refine th_x ?_
              refine bk_x ?_
              exact ⟨v7_11, s0_11, s1_11, s5_11, s7_11, s15_11, s16_11, s74_11, hE11, o0_11, n0_11, i0_11⟩
        · rintro _ w28 ⟨v7_28, s0_28, s1_28, s5_28, s7_28, s15_28, s16_28, s74_28, hE28, o0_28, n0_28, i0_28⟩
          refine W_th ?_
          refine W_seq ?_
          refine W_reg (by kernel_rfl) ?_
          refine wla rfl rfl (q_move (v := v7_28) rfl s7_28) ?_
          refine wla rfl rfl (q_len rfl T22.sl rfl i0_28) ?_
          refine wla rfl rfl (q_move (v := (i64 0)) rfl rfl) ?_
          refine wl_nil ?_
          refine W_th ?_
          obtain ⟨x29, G29, H4⟩ := Option.bind_eq_some_iff.1 H4
          refine W_mid (fun f w => f 0 = p0 ∧ f 1 = p1 ∧ f 5 = v1 ∧ f 15 = (i64 ((a0xs.length : Int))) ∧ f 16 = (i64 s4.2) ∧ f 74 = undef ∧ Ext w0 w ∧ OwK (Sc u8) w [v1] 5 v1 x29 ∧ Nw w0 v1) ?_ ?_
          · refine W_block ?_
            refine W_loop (fun s29 f w => f 0 = p0 ∧ f 1 = p1 ∧ f 5 = v1 ∧ f 7 = v7_28 ∧ f 15 = (i64 ((a0xs.length : Int))) ∧ f 16 = (i64 s4.2) ∧ f 54 = (i64 ((x10.length : Int))) ∧ f 55 = (i64 s29.2) ∧ f 74 = undef ∧ Ext w0 w ∧ OwK (Sc u8) w [v1] 5 v1 s29.1 ∧ Nw w0 v1 ∧ By w [v1] v7_28 x10) G29 ?_ ?_
            · exact ⟨s0_28, s1_28, s5_28, s7_28, s15_28, s16_28, rfl, rfl, s74_28, hE28, o0_28, n0_28, i0_28⟩
            · rintro s29 _ _ w30 ⟨s0_30, s1_30, s5_30, s7_30, s15_30, s16_30, s54_30, s55_30, s74_30, hE30, o0_30, n0_30, i0_30⟩ H29 hr29
              refine W_seq ?_
              refine W_reg (by kernel_rfl) ?_
              refine wla rfl rfl (q_ltI rfl s55_30 s54_30) ?_
              refine wl_nil ?_
              refine W_th ?_
              refine W_seq ?_
              refine W_cond _ rfl rfl (fun hb31 => ?_) (fun hb31 => ?_)
              · replace H29 := (if_pos (of_decide_eq_true hb31)).symm.trans H29
                refine W_skip ?_
                refine W_th ?_
                refine W_seq ?_
                refine W_block ?_
                refine W_seq ?_
                refine W_reg (by kernel_rfl) ?_
                refine wla rfl rfl (q_move (v := (i64 s29.2)) rfl s55_30) ?_
                refine wla rfl rfl (q_assign (v := (i64 s29.2)) rfl rfl) ?_
                refine wl_nil ?_
                refine W_th ?_
                refine W_draw [5, 9] [(0, 0), (1, 0), (2, 0), (3, 0), (4, 0), (5, 1), (6, 0), (7, 0), (8, 0), (9, 1), (10, 0), (11, 0), (12, 2)] mixed (by kernel_rfl) (by kernel_rfl) (by kernel_rfl) (by kernel_rfl) ?_
                have x32 := Ext.drew w30
                replace i0_30 := i0_30.lift (Lift.ext x32 _)
                replace o0_30 := o0_30.extL (Sc.stab _) x32 (Lift.ext x32 _)
                have e33 := hE30.trans x32
                refine wsa rfl rfl rfl (q_move (v := v1) rfl s5_30) ?_
                refine wsa rfl rfl rfl (q_move (v := (i64 s29.2)) rfl rfl) ?_
                refine wsa rfl rfl rfl (q_move (v := v1) rfl s5_30) ?_
                refine wsa rfl rfl rfl (q_move (v := (i64 s29.2)) rfl rfl) ?_
                obtain ⟨c34, hc34, H29⟩ := Option.bind_eq_some_iff.1 H29
                refine wsa rfl rfl rfl (q_adr rfl T22 rfl rfl (o0_30.rd (Sc.stab _)) hc34) ?_
                refine wsq rfl rfl rfl (q_loadS rfl T22 rfl (o0_30.rd (Sc.stab _)) hc34) ?_
                refine wsa rfl rfl rfl (q_move (v := v7_28) rfl s7_30) ?_
                refine wsa rfl rfl rfl (q_move (v := (i64 s29.2)) rfl rfl) ?_
                obtain ⟨c35, hc35, H29⟩ := Option.bind_eq_some_iff.1 H29
                refine wsa rfl rfl rfl (q_adr rfl T22 rfl rfl i0_30 hc35) ?_
                refine wsq rfl rfl rfl (q_loadS rfl T22 rfl i0_30 hc35) ?_
                refine wsa rfl rfl rfl (q_xor8 rfl rfl rfl) ?_
                refine wsa rfl rfl rfl (q_adr rfl T22 rfl rfl (o0_30.rd (Sc.stab _)) hc34) ?_
                refine wsn rfl (by kernel_rfl) rfl rfl (stp_store (R := (Sc u8)) (u := (u8 ((c34 ^^^ c35)))) (Sc.stab _) [] [] rfl T22 rfl rfl o0_30 (put_of ((c34 ^^^ c35)) hc34) rfl rfl ?_)
                intro w36 o36 g36 l36
                replace i0_30 := i0_30.lift l36
                have e37 := e33.grown g36 n0_30
                refine ws_nil ?_
                refine bk_n ?_
                refine W_th ?_
                refine W_reg (by kernel_rfl) ?_
                refine wla rfl rfl (q_addI rfl s55_30 rfl) ?_
                refine wla rfl rfl (q_move (v := (i64 ((wI (s29.2 + 1))))) rfl rfl) ?_
                refine wl_nil ?_
                obtain rfl := Option.some.inj H29
                exact ⟨_, rfl, s0_30, s1_30, s5_30, s7_30, s15_30, s16_30, s54_30, rfl, s74_30, e37, o36, n0_30, i0_30⟩
              · replace H29 := (if_neg (of_decide_eq_false hb31)).symm.trans H29
                refine W_exit ?_
                refine th_x ?_
                obtain rfl := Option.some.inj H29
                obtain rfl := hr29 _ rfl
                refine th_x ?_
                refine bk_x ?_
                exact ⟨s0_30, s1_30, s5_30, s15_30, s16_30, s74_30, hE30, o0_30, n0_30⟩
          · rintro _ w39 ⟨s0_39, s1_39, s5_39, s15_39, s16_39, s74_39, hE39, o0_39, n0_39⟩
            refine bk_n ?_
            refine W_th ?_
            refine W_reg (by kernel_rfl) ?_
            refine wla rfl rfl (q_addI rfl s16_39 rfl) ?_
            refine wla rfl rfl (q_move (v := (i64 ((wI (s4.2 + 1))))) rfl rfl) ?_
            refine wl_nil ?_
            obtain rfl := Option.some.inj H4
            exact ⟨_, rfl, s0_39, s1_39, s5_39, s15_39, rfl, s74_39, hE39, o0_39, n0_39⟩
      · replace H4 := (if_neg (of_decide_eq_false hb6)).symm.trans H4
        refine W_exit ?_
        refine th_x ?_
        obtain rfl := Option.some.inj H4
        obtain rfl := hr4 _ rfl
        refine th_x ?_
        refine bk_x ?_
        exact ⟨s5_5, s74_5, hE5, o0_5, n0_5⟩
  · rintro _ w43 ⟨s5_43, s74_43, hE43, o0_43, n0_43⟩
    refine W_th ?_
    refine W_seq ?_
    refine W_reg (by kernel_rfl) ?_
    refine wla rfl rfl (q_move (v := v1) rfl s5_43) ?_
    obtain ⟨r44, hr44, H⟩ := Option.bind_eq_some_iff.1 H
    refine wls rfl rfl (stp_call (vs := [v1]) Try.func56 rfl rfl rfl (ar1 rfl) (ref03_Trim_calls x4 v1 r44 _ (o0_43.rd (Sc.stab _)) hr44) ?_)
    rintro _ w44 ⟨v44, rfl, x44, n44_0, o44_0⟩
    refine ⟨_, rfl, ?_⟩
    have o44 : OwK (Sc u8) w44 (v44 :: [v1]) 5 v44 r44 := OwK.scal o44_0 _
    have q45 : Nq v1 v44 := o0_43.nq n44_0
    replace o0_43 := o0_43.extL (Sc.stab _) x44 (Lift.call _ x44 n44_0)
    have n47 := Nw.ext hE43 n44_0
    have e46 := hE43.trans x44
    refine wla rfl rfl (q_assign (v := v44) rfl rfl) ?_
    refine wl_nil ?_
    refine W_th ?_
    refine W_ret ?_
    obtain rfl := Option.some.inj H
    refine rt1 v44 rfl rfl rfl s74_43 ?_
    exact ⟨v44, rfl, e46, n47, (o44.weak (Sc.stab _) (fun _ _ => trivial))⟩

end Gk

/- Printed by gen.py: for each Go function a pure function, and that the Go code comes to it. No condition beside the equation that says what the pure function gives. -/


set_option linter.unusedVariables false
set_option linter.unusedSimpArgs false
namespace Gk
open Go Go.Proofs

/-! largesse/largesselaw08.Made -/
noncomputable def law08_Made (a0b : List UInt8) (a1n : Int) : Option (List UInt8) :=
((makeL a1n (0 : UInt8)).bind fun c1 => some (copyL c1 0 a0b))
set_option maxRecDepth 100000 in
set_option maxHeartbeats 8000000 in
theorem law08_Made_calls (a0b : List UInt8) (a1n : Int) (p0 : Value) (r : List UInt8) (w0 : World) (hp0 : By w0 [] p0 a0b) (H : law08_Made a0b a1n = some r) :
    Calls Try.prog 32 [p0, (i64 a1n)].toArray w0 (fun e w' => ∃ u0 : Value, e = .returned u0 ∧ Ext w0 w' ∧ Nw w0 u0 ∧ OwK (Sc u8) w' [] 5 u0 r) := by
  have hE : Ext w0 w0 := Ext.refl w0
  unfold law08_Made at H
  refine calls_W (n := 12) Try.func32 rfl rfl rfl ?_
  refine W_seq ?_
  refine W_reg (by kernel_rfl) ?_
  refine wla rfl rfl (q_assign (v := (.slice none 0 0)) rfl rfl) ?_
  refine wl_nil ?_
  refine W_th ?_
  refine W_seq ?_
  refine W_reg (by kernel_rfl) ?_
  refine wla rfl rfl (q_move (v := (i64 a1n)) rfl rfl) ?_
  obtain ⟨c1, hc1, H⟩ := Option.bind_eq_some_iff.1 H
  refine wls rfl rfl (stp_make (L := []) (R := (Sc u8)) rfl T22 rfl rfl hc1 (fun _ _ => rfl) ?_)
  intro v1 w1 o1 n1 g1 l1
  have x1 := grown_ext g1
  have n3 := Nw.ext hE n1
  have e2 := hE.trans x1
  refine wla rfl rfl (q_assign (v := v1) rfl rfl) ?_
  refine wl_nil ?_
  refine W_th ?_
  refine W_seq ?_
  refine W_reg (by kernel_rfl) ?_
  refine wla rfl rfl (q_move (v := v1) rfl rfl) ?_
  refine wla rfl rfl (q_move (v := p0) rfl rfl) ?_
  refine wls rfl rfl (stp_copy (R := (Sc u8)) (off := 0) (dv := v1) (u := p0) (Sc.stab _) [] [] rfl T22 rfl rfl o1 (copy_whole o1) (by decide) (Int.natCast_nonneg _) (hp0.lift (Lift.ext e2 _)) (fun _ _ h => h) oc_u8 ?_)
  intro w4 o4 g4 l4
  have e5 := e2.grown g4 n3
  refine wl_nil ?_
  refine W_th ?_
  refine W_seq ?_
  refine W_reg (by kernel_rfl) ?_
  refine wla rfl rfl (q_move (v := v1) rfl rfl) ?_
  refine wla rfl rfl (q_assign (v := v1) rfl rfl) ?_
  refine wl_nil ?_
  refine W_th ?_
  refine W_ret ?_
  obtain rfl := Option.some.inj H
  refine rt1 v1 rfl rfl rfl rfl ?_
  exact ⟨v1, rfl, e5, n3, (o4.weak (Sc.stab _) (fun _ _ => trivial))⟩

/-! largesse/largesselaw08.Unlike -/
noncomputable def law08_Unlike (a0b : List UInt8) (a1n : Int) : Option (List UInt8) :=
((iterC (fun s6 : (List (UInt8 × Bool)) × List UInt8 × Int =>
(if s6.2.2 < (a0b.length : Int) then
((idx a0b s6.2.2).bind fun c9 =>
(if (!((mget s6.1 c9))) = true then
(if (s6.2.1.length : Int) < a1n then
((appL s6.2.1 (([c9] : List UInt8))).bind fun c14 => some (.inl ((mput s6.1 c9 true), c14, (wI (s6.2.2 + 1)))))
else some (.inl ((mput s6.1 c9 true), s6.2.1, (wI (s6.2.2 + 1)))))
else some (.inl ((mput s6.1 c9 true), s6.2.1, (wI (s6.2.2 + 1))))))
else some (.inr s6.2.1))) ((mput (([] : List (UInt8 × Bool))) ((0 : UInt8)) true), ([] : List UInt8), 0)).bind fun x6 =>
((iterC (fun s26 : List UInt8 × UInt8 =>
(if (s26.1.length : Int) < a1n then
(if (0 : UInt8) < s26.2 then
((iterC (fun s30 : Bool × Int =>
(if s30.2 < (s26.1.length : Int) then
((idx s26.1 s30.2).bind fun c33 =>
(if s30.1 = true then some (.inl (true, (wI (s30.2 + 1))))
else some (.inl ((decide (s26.2 = c33)), (wI (s30.2 + 1))))))
else some (.inr s30.1))) (false, 0)).bind fun x30 =>
(if (!x30) = true then
((appL s26.1 (([s26.2] : List UInt8))).bind fun c40 => some (.inl (c40, (s26.2 + (1 : UInt8)))))
else some (.inl (s26.1, (s26.2 + (1 : UInt8))))))
else some (.inr s26.1))
else some (.inr s26.1))) (x6, (1 : UInt8))).bind fun x26 => some x26))
set_option maxRecDepth 100000 in
set_option maxHeartbeats 8000000 in
theorem law08_Unlike_calls (a0b : List UInt8) (a1n : Int) (p0 : Value) (r : List UInt8) (w0 : World) (hp0 : By w0 [] p0 a0b) (H : law08_Unlike a0b a1n = some r) :
    Calls Try.prog 15 [p0, (i64 a1n)].toArray w0 (fun e w' => ∃ u0 : Value, e = .returned u0 ∧ Ext w0 w' ∧ Nw w0 u0 ∧ OwK (Sc u8) w' [] 5 u0 r) := by
  have hE : Ext w0 w0 := Ext.refl w0
  unfold law08_Unlike at H
  refine calls_W (n := 68) Try.func15 rfl rfl rfl ?_
  refine W_seq ?_
  refine W_reg (by kernel_rfl) ?_
  refine wla rfl rfl (q_assign (v := (.slice none 0 0)) rfl rfl) ?_
  refine wl_nil ?_
  refine W_th ?_
  refine W_seq ?_
  refine W_reg (by kernel_rfl) ?_
  refine wls rfl rfl (stp_makeMap [] rfl ?_)
  intro g1 w1 o1 n1 g1r l1
  have x1 := grown_ext g1r
  have n3 := Nw.ext hE n1
  have e2 := hE.trans x1
  refine wln rfl rfl (stp_mapUpdate [] [] (.inr rfl) Try.underlying72 Try.underlying5 rfl (cst8 (0 : UInt8) rfl) rfl o1 ?_)
  intro w4 o4 g4 l4
  have e5 := e2.grown g4 n3
  refine wla rfl rfl (q_move (v := (mp g1)) rfl rfl) ?_
  refine wla rfl rfl (q_assign (v := (mp g1)) rfl rfl) ?_
  refine wl_nil ?_
  refine W_th ?_
  refine W_seq ?_
  refine W_reg (by kernel_rfl) ?_
  refine wla rfl rfl (q_assign (v := (.slice none 0 0)) rfl rfl) ?_
  refine wl_nil ?_
  refine W_th ?_
  refine W_seq ?_
  refine W_seq ?_
  refine W_reg (by kernel_rfl) ?_
  refine wla rfl rfl (q_move (v := p0) rfl rfl) ?_
  refine wla rfl rfl (q_len rfl T22.sl rfl (hp0.lift (Lift.ext e5 _))) ?_
  refine wla rfl rfl (q_move (v := (i64 0)) rfl rfl) ?_
  refine wl_nil ?_
  refine W_th ?_
  obtain ⟨x6, G6, H⟩ := Option.bind_eq_some_iff.1 H
  refine W_mid (fun f w => ∃ v6_47 : Value, f 1 = (i64 a1n) ∧ f 6 = v6_47 ∧ f 68 = undef ∧ Ext w0 w ∧ OwK (Sc u8) w [v6_47] 5 v6_47 x6 ∧ Nw w0 v6_47) ?_ ?_
  · refine W_block ?_
    refine W_loop (fun s6 f w => ∃ v6_24 : Value, f 1 = (i64 a1n) ∧ f 5 = (mp g1) ∧ f 6 = v6_24 ∧ f 15 = p0 ∧ f 16 = (i64 ((a0b.length : Int))) ∧ f 17 = (i64 s6.2.2) ∧ f 68 = undef ∧ Ext w0 w ∧ Mp w g1 s6.1 ∧ Nw w0 (mp g1) ∧ OwK (Sc u8) w [(mp g1), v6_24] 5 v6_24 s6.2.1 ∧ Nw w0 v6_24 ∧ Nq (mp g1) v6_24) G6 ?_ ?_
    · exact ⟨(.slice none 0 0), rfl, rfl, rfl, rfl, rfl, rfl, rfl, e5, o4, n3, (OwK.nil _ _ _ _), (Nw.nil _), (Nq.nil _).symm⟩
    · rintro s6 _ _ w7 ⟨v6_7, s1_7, s5_7, s6_7, s15_7, s16_7, s17_7, s68_7, hE7, o0_7, n0_7, o1_7, n1_7, q0_1_7⟩ H6 hr6
      refine W_seq ?_
      refine W_reg (by kernel_rfl) ?_
      refine wla rfl rfl (q_ltI rfl s17_7 s16_7) ?_
      refine wl_nil ?_
      refine W_th ?_
      refine W_seq ?_
      refine W_cond _ rfl rfl (fun hb8 => ?_) (fun hb8 => ?_)
      · replace H6 := (if_pos (of_decide_eq_true hb8)).symm.trans H6
        refine W_skip ?_
        refine W_th ?_
        refine W_seq ?_
        refine W_block ?_
        refine W_seq ?_
        refine W_reg (by kernel_rfl) ?_
        obtain ⟨c9, hc9, H6⟩ := Option.bind_eq_some_iff.1 H6
        refine wla rfl rfl (q_adr rfl T22 s15_7 s17_7 (hp0.lift (Lift.ext hE7 _)) hc9) ?_
        refine wlq rfl rfl (q_loadS rfl T22 rfl (hp0.lift (Lift.ext hE7 _)) hc9) ?_
        refine wla rfl rfl (q_assign (v := (u8 c9)) rfl rfl) ?_
        refine wl_nil ?_
        refine W_th ?_
        refine W_seq ?_
        refine W_seq ?_
        refine W_reg (by kernel_rfl) ?_
        refine wla rfl rfl (q_move (v := (mp g1)) rfl s5_7) ?_
        refine wla rfl rfl (q_move (v := (u8 c9)) rfl rfl) ?_
        refine wlq rfl rfl (q_lookup rfl Try.underlying72 Try.underlying5 Try.zeroValue4 rfl rfl o0_7) ?_
        refine wla rfl rfl (q_not rfl rfl) ?_
        refine wlb rfl rfl (q_move (v := (.bool ((!((mget s6.1 c9)))))) rfl rfl) (fun hb10 => ?_) (fun hb10 => ?_)
        · replace H6 := (if_pos hb10).symm.trans H6
          refine wla rfl rfl (q_move (v := v6_7) rfl s6_7) ?_
          refine wla rfl rfl (q_len rfl T22.sl rfl (o1_7.rd (Sc.stab _))) ?_
          refine wla rfl rfl (q_move (v := (i64 a1n)) rfl s1_7) ?_
          refine wla rfl rfl (q_ltI rfl rfl rfl) ?_
          refine wla rfl rfl (q_pick_t (v := (.bool ((decide ((s6.2.1.length : Int) < a1n))))) rfl rfl rfl) ?_
          refine wl_nil ?_
          refine W_th ?_
          refine W_cond _ rfl rfl (fun hb11 => ?_) (fun hb11 => ?_)
          · replace H6 := (if_pos (of_decide_eq_true hb11)).symm.trans H6
            refine W_reg (by kernel_rfl) ?_
            refine wla rfl rfl (q_move (v := v6_7) rfl s6_7) ?_
            refine wla rfl rfl (q_move (v := (u8 c9)) rfl rfl) ?_
            refine wls rfl rfl (stp_lit (L := [(mp g1), v6_7]) (R := (Sc u8)) [(u8 c9)] ([c9] : List UInt8) rfl T22 rfl (by exact ⟨rfl, rfl, trivial⟩) rfl (litC u8 (oneC_u8) (us := [(u8 c9)]) (l := ([c9] : List UInt8)) rfl) rfl (litS u8 (us := [(u8 c9)]) (l := ([c9] : List UInt8)) rfl) ?_)
            intro v12 w12 o12 n12 g12 l12
            have x12 := grown_ext g12
            have i12 : By w12 [(mp g1), v6_7] v12 (([c9] : List UInt8)) := OwK.slk (Sc.stab _) _ o12 (fun k hk => (Old.cons (Old.cons (Old.nil _) o1_7.lt) o0_7.ltB) k (n12 k hk)) (fun _ h => h.2)
            replace o0_7 := o0_7.ext x12
            replace o1_7 := o1_7.extL (Sc.stab _) x12 (Lift.ext x12 _)
            have e13 := hE7.trans x12
            obtain ⟨c14, hc14, H6⟩ := Option.bind_eq_some_iff.1 H6
            refine wls rfl rfl (stp_append (R := (Sc u8)) (v := v6_7) (u := v12) (Sc.stab _) [(mp g1)] [] rfl T22 rfl rfl o1_7 i12 (fun _ _ h => h) hc14 oc_u8 ?_)
            intro v14 w14 o14 g14 nx14 l14
            replace i12 := i12.lift l14
            have q15 : Nq (mp g1) v14 := o0_7.nxt q0_1_7 nx14
            replace o0_7 := o0_7.other g14 q0_1_7
            have e16 := e13.grown g14 n1_7
            have n17 := Nw.nxt e13 n1_7 nx14
            refine wla rfl rfl (q_assign (v := v14) rfl rfl) ?_
            refine wl_nil ?_
            refine W_th ?_
            refine W_reg (by kernel_rfl) ?_
            refine wla rfl rfl (q_move (v := (mp g1)) rfl s5_7) ?_
            refine wla rfl rfl (q_move (v := (u8 c9)) rfl rfl) ?_
            refine wln rfl rfl (stp_mapUpdate [] [v14] (.inl rfl) Try.underlying72 Try.underlying5 rfl rfl rfl o0_7 ?_)
            intro w18 o18 g18 l18
            replace i12 := i12.lift l18
            replace o14 := o14.other (Sc.stab _) g18 q15.symm l18
            have e19 := e16.grown g18 n0_7
            refine wl_nil ?_
            refine bk_n ?_
            refine W_th ?_
            refine W_reg (by kernel_rfl) ?_
            refine wla rfl rfl (q_addI rfl s17_7 rfl) ?_
            refine wla rfl rfl (q_move (v := (i64 ((wI (s6.2.2 + 1))))) rfl rfl) ?_
            refine wl_nil ?_
            obtain rfl := Option.some.inj H6
            exact ⟨_, rfl, v14, s1_7, s5_7, rfl, s15_7, s16_7, rfl, s68_7, e19, o18, n0_7, o14, n17, q15⟩
          · replace H6 := (if_neg (of_decide_eq_false hb11)).symm.trans H6
            refine W_skip ?_
            refine W_th ?_
            refine W_reg (by kernel_rfl) ?_
            refine wla rfl rfl (q_move (v := (mp g1)) rfl s5_7) ?_
            refine wla rfl rfl (q_move (v := (u8 c9)) rfl rfl) ?_
            refine wln rfl rfl (stp_mapUpdate [] [v6_7] (.inl rfl) Try.underlying72 Try.underlying5 rfl rfl rfl o0_7 ?_)
            intro w20 o20 g20 l20
            replace o1_7 := o1_7.other (Sc.stab _) g20 q0_1_7.symm l20
            have e21 := hE7.grown g20 n0_7
            refine wl_nil ?_
            refine bk_n ?_
            refine W_th ?_
            refine W_reg (by kernel_rfl) ?_
            refine wla rfl rfl (q_addI rfl s17_7 rfl) ?_
            refine wla rfl rfl (q_move (v := (i64 ((wI (s6.2.2 + 1))))) rfl rfl) ?_
            refine wl_nil ?_
            obtain rfl := Option.some.inj H6
            exact ⟨_, rfl, v6_7, s1_7, s5_7, s6_7, s15_7, s16_7, rfl, s68_7, e21, o20, n0_7, o1_7, n1_7, q0_1_7⟩
        · replace H6 := (if_neg (ne_true_of_eq_false hb10)).symm.trans H6
          refine wlk rfl rfl ?_
          refine wlk rfl rfl ?_
          refine wlk rfl rfl ?_
          refine wlk rfl rfl ?_
          refine wla rfl rfl (q_pick_f (v := (.bool false)) rfl rfl rfl) ?_
          refine wl_nil ?_
          refine W_th ?_
          refine W_cond false rfl rfl (fun hb => by cases hb) (fun _ => ?_)
          refine W_skip ?_
          refine W_th ?_
          refine W_reg (by kernel_rfl) ?_
          refine wla rfl rfl (q_move (v := (mp g1)) rfl s5_7) ?_
          refine wla rfl rfl (q_move (v := (u8 c9)) rfl rfl) ?_
          refine wln rfl rfl (stp_mapUpdate [] [v6_7] (.inl rfl) Try.underlying72 Try.underlying5 rfl rfl rfl o0_7 ?_)
          intro w22 o22 g22 l22
          replace o1_7 := o1_7.other (Sc.stab _) g22 q0_1_7.symm l22
          have e23 := hE7.grown g22 n0_7
          refine wl_nil ?_
          refine bk_n ?_
          refine W_th ?_
          refine W_reg (by kernel_rfl) ?_
          refine wla rfl rfl (q_addI rfl s17_7 rfl) ?_
          refine wla rfl rfl (q_move (v := (i64 ((wI (s6.2.2 + 1))))) rfl rfl) ?_
          refine wl_nil ?_
          obtain rfl := Option.some.inj H6
          exact ⟨_, rfl, v6_7, s1_7, s5_7, s6_7, s15_7, s16_7, rfl, s68_7, e23, o22, n0_7, o1_7, n1_7, q0_1_7⟩
      · replace H6 := (if_neg (of_decide_eq_false hb8)).symm.trans H6
        refine W_exit ?_
        refine th_x ?_
        obtain rfl := Option.some.inj H6
        obtain rfl := hr6 _ rfl
        refine th_x ?_
        refine bk_x ?_
        exact ⟨v6_7, s1_7, s6_7, s68_7, hE7, (o1_7.weak (Sc.stab _) (fun _ h => ⟨h.2.1, trivial⟩)), n1_7⟩
  · rintro _ w25 ⟨v6_25, s1_25, s6_25, s68_25, hE25, o0_25, n0_25⟩
    refine W_th ?_
    refine W_seq ?_
    refine W_seq ?_
    refine W_reg (by kernel_rfl) ?_
    refine wla rfl rfl (q_assign (v := (u8 1)) rfl (cst8 (1 : UInt8) rfl)) ?_
    refine wl_nil ?_
    refine W_th ?_
    obtain ⟨x26, G26, H⟩ := Option.bind_eq_some_iff.1 H
    refine W_mid (fun f w => ∃ v6_46 : Value, f 6 = v6_46 ∧ f 68 = undef ∧ Ext w0 w ∧ OwK (Sc u8) w [v6_46] 5 v6_46 x26 ∧ Nw w0 v6_46) ?_ ?_
    · refine W_block ?_
      refine W_loop (fun s26 f w => ∃ v6_44 : Value, f 1 = (i64 a1n) ∧ f 6 = v6_44 ∧ f 9 = (u8 s26.2) ∧ f 68 = undef ∧ Ext w0 w ∧ OwK (Sc u8) w [v6_44] 5 v6_44 s26.1 ∧ Nw w0 v6_44) G26 ?_ ?_
      · exact ⟨v6_25, s1_25, s6_25, rfl, s68_25, hE25, o0_25, n0_25⟩
      · rintro s26 _ _ w27 ⟨v6_27, s1_27, s6_27, s9_27, s68_27, hE27, o0_27, n0_27⟩ H26 hr26
        refine W_seq ?_
        refine W_seq ?_
        refine W_reg (by kernel_rfl) ?_
        refine wla rfl rfl (q_move (v := v6_27) rfl s6_27) ?_
        refine wla rfl rfl (q_len rfl T22.sl rfl (o0_27.rd (Sc.stab _))) ?_
        refine wla rfl rfl (q_move (v := (i64 a1n)) rfl s1_27) ?_
        refine wla rfl rfl (q_ltI rfl rfl rfl) ?_
        refine wlb rfl rfl (q_move (v := (.bool ((decide ((s26.1.length : Int) < a1n))))) rfl rfl) (fun hb28 => ?_) (fun hb28 => ?_)
        · replace H26 := (if_pos (of_decide_eq_true hb28)).symm.trans H26
          refine wla rfl rfl (q_move (v := (u8 s26.2)) rfl s9_27) ?_
          refine wla rfl rfl (q_gt8 rfl rfl (cst8 (0 : UInt8) rfl)) ?_
          refine wla rfl rfl (q_pick_t (v := (.bool ((decide ((0 : UInt8) < s26.2))))) rfl rfl rfl) ?_
          refine wl_nil ?_
          refine W_th ?_
          refine W_cond _ rfl rfl (fun hb29 => ?_) (fun hb29 => ?_)
          · replace H26 := (if_pos (of_decide_eq_true hb29)).symm.trans H26
            refine W_skip ?_
            refine W_th ?_
            refine W_seq ?_
            refine W_block ?_
            refine W_seq ?_
            refine W_reg (by kernel_rfl) ?_
            refine wla rfl rfl (q_assign (v := (.bool false)) rfl rfl) ?_
            refine wl_nil ?_
            refine W_th ?_
            refine W_seq ?_
            refine W_seq ?_
            refine W_reg (by kernel_rfl) ?_
            refine wla rfl rfl (q_move (v := v6_27) rfl s6_27) ?_
            refine wla rfl rfl (q_len rfl T22.sl rfl (o0_27.rd (Sc.stab _))) ?_
            refine wla rfl rfl (q_move (v := (i64 0)) rfl rfl) ?_
            refine wl_nil ?_
            refine W_th ?_
            obtain ⟨x30, G30, H26⟩ := Option.bind_eq_some_iff.1 H26
            refine W_mid (fun f w => f 1 = (i64 a1n) ∧ f 6 = v6_27 ∧ f 9 = (u8 s26.2) ∧ f 10 = (.bool x30) ∧ f 68 = undef ∧ Ext w0 w ∧ OwK (Sc u8) w [v6_27] 5 v6_27 s26.1 ∧ Nw w0 v6_27) ?_ ?_
            · refine W_block ?_
              refine W_loop (fun s30 f w => f 1 = (i64 a1n) ∧ f 6 = v6_27 ∧ f 9 = (u8 s26.2) ∧ f 10 = (.bool s30.1) ∧ f 48 = v6_27 ∧ f 49 = (i64 ((s26.1.length : Int))) ∧ f 50 = (i64 s30.2) ∧ f 68 = undef ∧ Ext w0 w ∧ OwK (Sc u8) w [v6_27] 5 v6_27 s26.1 ∧ Nw w0 v6_27) G30 ?_ ?_
              · exact ⟨s1_27, s6_27, s9_27, rfl, rfl, rfl, rfl, s68_27, hE27, o0_27, n0_27⟩
              · rintro s30 _ _ w31 ⟨s1_31, s6_31, s9_31, s10_31, s48_31, s49_31, s50_31, s68_31, hE31, o0_31, n0_31⟩ H30 hr30
                refine W_seq ?_
                refine W_reg (by kernel_rfl) ?_
                refine wla rfl rfl (q_ltI rfl s50_31 s49_31) ?_
                refine wl_nil ?_
                refine W_th ?_
                refine W_seq ?_
                refine W_cond _ rfl rfl (fun hb32 => ?_) (fun hb32 => ?_)
                · replace H30 := (if_pos (of_decide_eq_true hb32)).symm.trans H30
                  refine W_skip ?_
                  refine W_th ?_
                  refine W_seq ?_
                  refine W_block ?_
                  refine W_seq ?_
                  refine W_reg (by kernel_rfl) ?_
                  obtain ⟨c33, hc33, H30⟩ := Option.bind_eq_some_iff.1 H30
                  refine wla rfl rfl (q_adr rfl T22 s48_31 s50_31 (o0_31.rd (Sc.stab _)) hc33) ?_
                  refine wlq rfl rfl (q_loadS rfl T22 rfl (o0_31.rd (Sc.stab _)) hc33) ?_
                  refine wla rfl rfl (q_assign (v := (u8 c33)) rfl rfl) ?_
                  refine wl_nil ?_
                  refine W_th ?_
                  refine W_reg (by kernel_rfl) ?_
                  refine wla rfl rfl (q_move (v := (.bool s30.1)) rfl s10_31) ?_
                  refine wlb rfl rfl (q_move (v := (.bool s30.1)) rfl rfl) (fun hb34 => ?_) (fun hb34 => ?_)
                  · replace H30 := (if_pos hb34).symm.trans H30
                    refine wlk rfl rfl ?_
                    refine wlk rfl rfl ?_
                    refine wlk rfl rfl ?_
                    refine wla rfl rfl (q_pick_t (v := (.bool true)) rfl rfl rfl) ?_
                    refine wla rfl rfl (q_assign (v := (.bool true)) rfl rfl) ?_
                    refine wl_nil ?_
                    refine bk_n ?_
                    refine W_th ?_
                    refine W_reg (by kernel_rfl) ?_
                    refine wla rfl rfl (q_addI rfl s50_31 rfl) ?_
                    refine wla rfl rfl (q_move (v := (i64 ((wI (s30.2 + 1))))) rfl rfl) ?_
                    refine wl_nil ?_
                    obtain rfl := Option.some.inj H30
                    exact ⟨_, rfl, s1_31, s6_31, s9_31, rfl, s48_31, s49_31, rfl, s68_31, hE31, o0_31, n0_31⟩
                  · replace H30 := (if_neg (ne_true_of_eq_false hb34)).symm.trans H30
                    refine wla rfl rfl (q_move (v := (u8 s26.2)) rfl s9_31) ?_
                    refine wla rfl rfl (q_move (v := (u8 c33)) rfl rfl) ?_
                    refine wla rfl rfl (q_eq8 rfl rfl rfl) ?_
                    refine wla rfl rfl (q_pick_f (v := (.bool ((decide (s26.2 = c33))))) rfl rfl rfl) ?_
                    refine wla rfl rfl (q_assign (v := (.bool ((decide (s26.2 = c33))))) rfl rfl) ?_
                    refine wl_nil ?_
                    refine bk_n ?_
                    refine W_th ?_
                    refine W_reg (by kernel_rfl) ?_
                    refine wla rfl rfl (q_addI rfl s50_31 rfl) ?_
                    refine wla rfl rfl (q_move (v := (i64 ((wI (s30.2 + 1))))) rfl rfl) ?_
                    refine wl_nil ?_
                    obtain rfl := Option.some.inj H30
                    exact ⟨_, rfl, s1_31, s6_31, s9_31, rfl, s48_31, s49_31, rfl, s68_31, hE31, o0_31, n0_31⟩
                · replace H30 := (if_neg (of_decide_eq_false hb32)).symm.trans H30
                  refine W_exit ?_
                  refine th_x ?_
                  obtain rfl := Option.some.inj H30
                  obtain rfl := hr30 _ rfl
                  refine th_x ?_
                  refine bk_x ?_
                  exact ⟨s1_31, s6_31, s9_31, s10_31, s68_31, hE31, o0_31, n0_31⟩
            · rintro _ w36 ⟨s1_36, s6_36, s9_36, s10_36, s68_36, hE36, o0_36, n0_36⟩
              refine W_th ?_
              refine W_seq ?_
              refine W_reg (by kernel_rfl) ?_
              refine wla rfl rfl (q_move (v := (.bool x30)) rfl s10_36) ?_
              refine wla rfl rfl (q_not rfl rfl) ?_
              refine wl_nil ?_
              refine W_th ?_
              refine W_cond _ rfl rfl (fun hb37 => ?_) (fun hb37 => ?_)
              · replace H26 := (if_pos hb37).symm.trans H26
                refine W_reg (by kernel_rfl) ?_
                refine wla rfl rfl (q_move (v := v6_27) rfl s6_36) ?_
                refine wla rfl rfl (q_move (v := (u8 s26.2)) rfl s9_36) ?_
                refine wls rfl rfl (stp_lit (L := [v6_27]) (R := (Sc u8)) [(u8 s26.2)] ([s26.2] : List UInt8) rfl T22 rfl (by exact ⟨rfl, rfl, trivial⟩) rfl (litC u8 (oneC_u8) (us := [(u8 s26.2)]) (l := ([s26.2] : List UInt8)) rfl) rfl (litS u8 (us := [(u8 s26.2)]) (l := ([s26.2] : List UInt8)) rfl) ?_)
                intro v38 w38 o38 n38 g38 l38
                have x38 := grown_ext g38
                have i38 : By w38 [v6_27] v38 (([s26.2] : List UInt8)) := OwK.slk (Sc.stab _) _ o38 (fun k hk => (Old.cons (Old.nil _) o0_36.lt) k (n38 k hk)) (fun _ h => h.2)
                replace o0_36 := o0_36.extL (Sc.stab _) x38 (Lift.ext x38 _)
                have e39 := hE36.trans x38
                obtain ⟨c40, hc40, H26⟩ := Option.bind_eq_some_iff.1 H26
                refine wls rfl rfl (stp_append (R := (Sc u8)) (v := v6_27) (u := v38) (Sc.stab _) [] [] rfl T22 rfl rfl o0_36 i38 (fun _ _ h => h) hc40 oc_u8 ?_)
                intro v40 w40 o40 g40 nx40 l40
                replace i38 := i38.lift l40
                have e41 := e39.grown g40 n0_36
                have n42 := Nw.nxt e39 n0_36 nx40
                refine wla rfl rfl (q_assign (v := v40) rfl rfl) ?_
                refine wl_nil ?_
                refine bk_n ?_
                refine W_th ?_
                refine W_reg (by kernel_rfl) ?_
                refine wla rfl rfl (q_move (v := (u8 s26.2)) rfl s9_36) ?_
                refine wla rfl rfl (q_add8 rfl rfl (cst8 (1 : UInt8) rfl)) ?_
                refine wla rfl rfl (q_assign (v := (u8 ((s26.2 + (1 : UInt8))))) rfl rfl) ?_
                refine wl_nil ?_
                obtain rfl := Option.some.inj H26
                exact ⟨_, rfl, v40, s1_36, rfl, rfl, s68_36, e41, o40, n42⟩
              · replace H26 := (if_neg (ne_true_of_eq_false hb37)).symm.trans H26
                refine W_skip ?_
                refine bk_n ?_
                refine W_th ?_
                refine W_reg (by kernel_rfl) ?_
                refine wla rfl rfl (q_move (v := (u8 s26.2)) rfl s9_36) ?_
                refine wla rfl rfl (q_add8 rfl rfl (cst8 (1 : UInt8) rfl)) ?_
                refine wla rfl rfl (q_assign (v := (u8 ((s26.2 + (1 : UInt8))))) rfl rfl) ?_
                refine wl_nil ?_
                obtain rfl := Option.some.inj H26
                exact ⟨_, rfl, v6_27, s1_36, s6_36, rfl, s68_36, hE36, o0_36, n0_36⟩
          · replace H26 := (if_neg (of_decide_eq_false hb29)).symm.trans H26
            refine W_exit ?_
            refine th_x ?_
            obtain rfl := Option.some.inj H26
            obtain rfl := hr26 _ rfl
            refine th_x ?_
            refine bk_x ?_
            exact ⟨v6_27, s6_27, s68_27, hE27, o0_27, n0_27⟩
        · replace H26 := (if_neg (of_decide_eq_false hb28)).symm.trans H26
          refine wlk rfl rfl ?_
          refine wlk rfl rfl ?_
          refine wla rfl rfl (q_pick_f (v := (.bool false)) rfl rfl rfl) ?_
          refine wl_nil ?_
          refine W_th ?_
          refine W_cond false rfl rfl (fun hb => by cases hb) (fun _ => ?_)
          refine W_exit ?_
          refine th_x ?_
          obtain rfl := Option.some.inj H26
          obtain rfl := hr26 _ rfl
          refine th_x ?_
          refine bk_x ?_
          exact ⟨v6_27, s6_27, s68_27, hE27, o0_27, n0_27⟩
    · rintro _ w45 ⟨v6_45, s6_45, s68_45, hE45, o0_45, n0_45⟩
      refine W_th ?_
      refine W_seq ?_
      refine W_reg (by kernel_rfl) ?_
      refine wla rfl rfl (q_move (v := v6_45) rfl s6_45) ?_
      refine wla rfl rfl (q_assign (v := v6_45) rfl rfl) ?_
      refine wl_nil ?_
      refine W_th ?_
      refine W_ret ?_
      obtain rfl := Option.some.inj H
      refine rt1 v6_45 rfl rfl rfl s68_45 ?_
      exact ⟨v6_45, rfl, hE45, n0_45, (o0_45.weak (Sc.stab _) (fun _ _ => trivial))⟩

end Gk

/- Rows that are owned with all that lies in them; matrices behind pointers. No condition. -/

set_option linter.unusedVariables false
set_option linter.unusedSimpArgs false
namespace Gk
open Go Go.RowKit

/-- a and b have no block in common. -/
def Apt (a b : Value) : Prop := ∀ k, oB a = some k → oB b ≠ some k
theorem Apt.symm {a b : Value} (h : Apt a b) : Apt b a := fun k h1 h2 => h k h2 h1
/-- Slice u and all its rows are owned, by the group G. -/
def OwD (w : World) (e1 e2 : TypeId) (G u : Value) (ls : List (List UInt8)) : Prop :=
  ∃ us : List Value, G = .tuple (u :: us).toArray ∧ Ow w e1 u us ∧ us.length = ls.length ∧ (∀ (i : Nat) (h : i < us.length) (h' : i < ls.length), OwK (Sc u8) w [] e2 us[i] ls[i]) ∧ (u :: us).Pairwise Apt
theorem hs_grp {u : Value} {us : List Value} {k : Nat} : Hs (.tuple (u :: us).toArray) k ↔ oB u = some k ∨ ∃ x ∈ us, oB x = some k := by
  constructor
  · intro h
    obtain ⟨x, hx, e⟩ := hs_tup h
    simp only [List.mem_cons] at hx
    rcases hx with rfl | hx
    · exact .inl e
    · exact .inr ⟨x, hx, e⟩
  · rintro (h | ⟨x, hx, h⟩)
    · exact .inr ⟨_, rfl, u, by simp, h⟩
    · exact .inr ⟨_, rfl, x, by simp [hx], h⟩
theorem OwK.ltO {α : Type} {R : World → List Value → Value → α → Prop} {w : World} {L : List Value} {e : TypeId} {v : Value} {l : List α} (h : OwK R w L e v l) {k : Nat} (hk : oB v = some k) : k < w.heap.size := h.lt k (.inl hk)
theorem OwD.lt {w : World} {e1 e2 : TypeId} {G u : Value} {ls : List (List UInt8)} (h : OwD w e1 e2 G u ls) : ∀ k, Hs G k → k < w.heap.size := by
  obtain ⟨us, rfl, h1, hl, h2, _⟩ := h
  intro k hk
  rcases hs_grp.1 hk with hk | ⟨x, hx, hk⟩
  · exact h1.lt k (.inl hk)
  · obtain ⟨i, hi, rfl⟩ := List.getElem_of_mem hx
    exact (h2 i hi (by omega)).ltO hk
theorem OwD.ltB {w : World} {e1 e2 : TypeId} {G u : Value} {ls : List (List UInt8)} (h : OwD w e1 e2 G u ls) : ∀ k, Hs G k → k < w.heap.size := h.lt
theorem OwD.ext {w w' : World} {e1 e2 : TypeId} {G u : Value} {ls : List (List UInt8)} (h : OwD w e1 e2 G u ls) (x : Ext w w') : OwD w' e1 e2 G u ls := by
  obtain ⟨us, hG, h1, hl, h2, h3⟩ := h
  exact ⟨us, hG, h1.ext x, hl, fun i a b => (h2 i a b).ext (Sc.stab _) x, h3⟩
theorem OwD.tn {B : Nat} {w w' : World} {e1 e2 : TypeId} {G u : Value} {ls : List (List UInt8)} (h : OwD w e1 e2 G u ls) (t : Tn B w w') : OwD w' e1 e2 G u ls := by
  obtain ⟨us, hG, h1, hl, h2, h3⟩ := h
  exact ⟨us, hG, h1.tn t, hl, fun i a b => (h2 i a b).tn (Sc.stab _) t, h3⟩
theorem OwK.keptR {w w' : World} {row : Option Nat} {e : TypeId} {v : Value} {l : List UInt8} (h : OwK (Sc u8) w [] e v l) (hg : w.grownBy w' row) (hne : ∀ k, oB v = some k → row ≠ some k) : OwK (Sc u8) w' [] e v l := by
  obtain ⟨us, h1, h2, h3⟩ := h
  exact ⟨us, h1.kept hg hne, h2, h3⟩
theorem OwD.other {w w' : World} {e1 e2 : TypeId} {G u v : Value} {ls : List (List UInt8)} (h : OwD w e1 e2 G u ls) (hg : Gr w w' v) (hq : Nq G v) : OwD w' e1 e2 G u ls := by
  obtain ⟨us, rfl, h1, hl, h2, h3⟩ := h
  obtain ⟨row, hg, hr⟩ := hg
  refine ⟨us, rfl, h1.kept hg (fun k hk e => hq k (hs_grp.2 (.inl hk)) (hr k e)), hl, fun i a b => (h2 i a b).keptR hg (fun k hk e => hq k (hs_grp.2 (.inr ⟨_, List.getElem_mem a, hk⟩)) (hr k e)), h3⟩
theorem OwD.nq {w : World} {e1 e2 : TypeId} {G u v : Value} {ls : List (List UInt8)} (h : OwD w e1 e2 G u ls) (hn : Nw w v) : Nq G v := fun k hu hv => by
  have := h.lt k hu; have := hn k hv; omega
theorem OwD.nxt {w : World} {e1 e2 : TypeId} {G u v v' : Value} {ls : List (List UInt8)} (h : OwD w e1 e2 G u ls) (hq : Nq G v) (hn : Nx w v v') : Nq G v' := fun k hu hv => by
  rcases hn k hv with h1 | h1
  · exact hq k hu h1
  · have := h.lt k hu; omega
theorem OwD.cl {w : World} {e1 e2 : TypeId} {G u : Value} {ls : List (List UInt8)} (h : OwD w e1 e2 G u ls) : Cl w G := by
  obtain ⟨us, rfl, h1, hl, h2, _⟩ := h
  intro k hk
  rcases hs_grp.1 hk with hk | ⟨x, hx, hk⟩
  · exact (OwK.cl (R := Sc (fun v : Value => v)) (L := []) ⟨us, h1, rfl, fun _ _ _ => rfl⟩) k (.inl hk)
  · obtain ⟨i, hi, rfl⟩ := List.getElem_of_mem hx
    exact (h2 i hi (by omega)).cl k (.inl hk)
/-- It reads as rows. -/
theorem OwD.rw {w : World} {e1 e2 : TypeId} {G u : Value} {ls : List (List UInt8)} (h : OwD w e1 e2 G u ls) (L : List Value) (ha : ∀ k, Hs G k → Av L k) : Rw w L u ls := by
  obtain ⟨us, rfl, h1, hl, h2, _⟩ := h
  refine ⟨us, h1.sl L (fun k hk => ?_), hl, fun i a b => ((h2 i a b).scal L).slk (Sc.stab _) L (fun k hk => ?_) (fun _ h => h)⟩
  · rcases h1 with ⟨p, rfl, _⟩ | ⟨g, cap, rfl, _⟩ <;> exact ha k (hs_grp.2 (.inl (hs_sl hk)))
  · obtain ⟨us', h4, _⟩ := h2 i a b
    refine ha k (hs_grp.2 (.inr ⟨_, List.getElem_mem a, ?_⟩))
    rcases h4 with ⟨p, e, _⟩ | ⟨g, cap, e, _⟩ <;> rw [e] at hk ⊢ <;> exact hs_sl hk
theorem OwD.rd {w : World} {e1 e2 : TypeId} {G u : Value} {ls : List (List UInt8)} (h : OwD w e1 e2 G u ls) : Rw w [] u ls := h.rw [] (fun _ _ => trivial)

/-- Row i of the group. -/
def DAt (G : Value) (i : Nat) (x : Value) : Prop := ∃ u us, G = .tuple (u :: us).toArray ∧ us[i]? = some x
theorem tup_inj {a b : List Value} (h : (Value.tuple a.toArray) = .tuple b.toArray) : a = b := by
  have := Value.tuple.inj h
  exact congrArg Array.toList this
theorem OwD.row {w : World} {e1 e2 : TypeId} {G u x : Value} {ls : List (List UInt8)} {i : Nat} (h : OwD w e1 e2 G u ls) (hx : DAt G i x) : ∃ (h : i < ls.length), OwK (Sc u8) w [] e2 x ls[i] ∧ (∀ k, Hs x k → Hs G k) := by
  obtain ⟨us, rfl, h1, hl, h2, h3⟩ := h
  obtain ⟨u', us', e, hi⟩ := hx
  obtain ⟨rfl, rfl⟩ := List.cons.inj (tup_inj e)
  obtain ⟨hlt, rfl⟩ := List.getElem?_eq_some_iff.1 hi
  refine ⟨by omega, h2 i hlt (by omega), fun k hk => hs_grp.2 (.inr ⟨_, List.getElem_mem hlt, ?_⟩)⟩
  obtain ⟨us', h4, _⟩ := h2 i hlt (by omega)
  rcases h4 with ⟨p, e, _⟩ | ⟨g, cap, e, _⟩ <;> rw [e] at hk ⊢ <;> exact hs_sl hk
theorem OwD.rowrd {w : World} {e1 e2 : TypeId} {G u x : Value} {ls : List (List UInt8)} {i : Int} {r : List UInt8} (h : OwD w e1 e2 G u ls) (hx : DAt G i.toNat x) (hi : idx ls i = some r) : By w [] x r := by
  obtain ⟨hlt, ho, _⟩ := h.row hx
  obtain ⟨_, h2, rfl⟩ := idx_some.1 hi
  exact ho.rd (Sc.stab _)
theorem OwD.shape {w : World} {e1 e2 : TypeId} {G u : Value} {ls : List (List UInt8)} (h : OwD w e1 e2 G u ls) : ∃ p n c, u = .slice p n c := by
  obtain ⟨us, _, h1, _⟩ := h
  rcases h1 with ⟨p, rfl, _⟩ | ⟨g, cap, rfl, _⟩
  · exact ⟨_, _, _, rfl⟩
  · exact ⟨_, _, _, rfl⟩
/-- A row turned in its place. -/
theorem OwD.upd {w w' : World} {e1 e2 : TypeId} {G u x : Value} {ls : List (List UInt8)} {i : Nat} {r : List UInt8} {L : List Value} (h : OwD w e1 e2 G u ls) (hx : DAt G i x) (ho : OwK (Sc u8) w' L e2 x r) (hg : Gr w w' x) : OwD w' e1 e2 G u (ls.set i r) ∧ Gr w w' G := by
  have hrow := h.row hx
  obtain ⟨us, rfl, h1, hl, h2, h3⟩ := h
  obtain ⟨u', us', e, hi⟩ := hx
  obtain ⟨rfl, rfl⟩ := List.cons.inj (tup_inj e)
  obtain ⟨hlt, rfl⟩ := List.getElem?_eq_some_iff.1 hi
  obtain ⟨_, hor, hsub⟩ := hrow
  obtain ⟨row, hgr, hr⟩ := hg
  have hro : ∀ k, row = some k → oB us[i] = some k := fun k hk => by
    have h4 := hr k hk
    obtain ⟨us', h5, _⟩ := hor
    rcases h5 with ⟨p, e, _⟩ | ⟨g, cap, e, _⟩ <;> rw [e] at h4 ⊢ <;> exact hs_sl h4
  refine ⟨⟨us, rfl, h1.kept hgr (fun k hk e => ?_), by simpa using hl, fun j a b => ?_, h3⟩, ⟨row, hgr, fun k hk => hsub k (hr k hk)⟩⟩
  · exact (List.rel_of_pairwise_cons h3 (List.getElem_mem hlt)) k hk (hro k e)
  · have hj : j < ls.length := by simpa using b
    rw [List.getElem_set]
    by_cases hij : i = j
    · subst hij; rw [if_pos rfl]; exact ho
    · rw [if_neg hij]
      refine (h2 j a hj).keptR hgr (fun k hk e => ?_)
      have h4 := (List.pairwise_cons.1 h3).2
      rcases Nat.lt_or_gt_of_ne hij with h5 | h5
      · exact (List.pairwise_iff_getElem.1 h4 i j hlt a h5) k (hro k e) hk
      · exact (List.pairwise_iff_getElem.1 h4 j i a hlt h5) k hk (hro k e)
/-- The group may be turned to another one, by what it had and what x had. -/
theorem OwD.relist {G G' x : Value} (hG : ∀ k, Hs G' k → Hs G k ∨ Hs x k) {v : Value} (h1 : Nq v G) (h2 : Nq v x) : Nq v G' := fun k hk h' => (hG k h').elim (h1 k hk) (h2 k hk)
/-- It is a slice of rows that is owned. -/
theorem OwD.owk {w : World} {e1 e2 : TypeId} {G u : Value} {ls : List (List UInt8)} (h : OwD w e1 e2 G u ls) (L : List Value) (ha : ∀ k, Hs G k → Av L k) : OwK By w (u :: L) e1 u ls := by
  obtain ⟨us, rfl, h1, hl, h2, h3⟩ := h
  refine ⟨us, h1, hl, fun i a b => ((h2 i a b).scal (u :: L)).slk (Sc.stab _) (u :: L) (fun k hk => ?_) (fun _ h => h)⟩
  have hb : oB us[i] = some k := by
    obtain ⟨us', h4, _⟩ := h2 i a b
    rcases h4 with ⟨p, e, _⟩ | ⟨g, cap, e, _⟩ <;> rw [e] at hk ⊢ <;> exact hs_sl hk
  refine ⟨fun hu => ?_, ha k (hs_grp.2 (.inr ⟨_, List.getElem_mem a, hb⟩))⟩
  have hu' : oB u = some k := by rcases h1 with ⟨p, rfl, _⟩ | ⟨g, cap, rfl, _⟩ <;> exact hs_sl hu
  exact (List.rel_of_pairwise_cons h3 (List.getElem_mem a)) k hu' hb
theorem OwD.nwu {w w0 : World} {e1 e2 : TypeId} {G u : Value} {ls : List (List UInt8)} (h : OwD w e1 e2 G u ls) (hn : Nw w0 G) : Nw w0 u := by
  obtain ⟨us, rfl, h1, _⟩ := h
  intro k hk
  refine hn k (hs_grp.2 (.inl ?_))
  rcases h1 with ⟨p, rfl, _⟩ | ⟨g, cap, rfl, _⟩ <;> exact hs_sl hk

theorem Lift.call2 {w w' : World} {a b : Value} (L : List Value) (hg : Ext w w') (ha : Nw w a) (hb : Nw w b) : Lift w w' L (a :: b :: L) :=
  ⟨fun k o ho _ _ => (hg.blk k (lt_of_get ho)).trans ho, fun k hk h => ⟨fun e => by have := ha k e; omega, fun e => by have := hb k e; omega, h⟩⟩
theorem idv_eq {w : World} {L : List Value} {e : TypeId} {v : Value} {us : List Value} : OwK (Sc (fun x : Value => x)) w L e v us ↔ Ow w e v us := by
  constructor
  · rintro ⟨us', h, hl, he⟩
    have : us' = us := List.ext_getElem hl (fun i a b => he i a b)
    rw [← this]; exact h
  · intro h; exact ⟨us, h, rfl, fun _ _ _ => rfl⟩
theorem idv_stab : Stab (Sc (fun x : Value => x)) := Sc.stab _
section
variable {P : Program} {f : Nat → Value} {w : World} {o : Oper}
/-- make([][]byte, n): owned with all rows. -/
theorem stp_makeD (L : List Value) {x y : Operand} {t e1 e2 : TypeId} {bytes : Nat} {n : Int} {ls : List (List UInt8)} (ho : o.op = .makeSlice t x y) (T : TyS P t e1 (.slice none 0 0) bytes) (hx : ev f x = i64 n) (hy : ev f y = i64 n) (hl : makeL n ([] : List UInt8) = some ls)
    {K : Value → World → Prop} (hk : ∀ G v w', OwD w' e1 e2 G v ls → Nw w G → w.grownBy w' none → Lift w w' L (G :: L) → K v w') : Stp P o f w K := by
  have hl2 : makeL n (Value.slice none 0 0) = some (List.replicate ls.length (.slice none 0 0)) := by
    unfold makeL at hl ⊢
    split at hl
    · rename_i h; rw [if_pos h]; obtain rfl := Option.some.inj hl; simp
    · cases hl
  have hls : ls = List.replicate ls.length [] := by
    unfold makeL at hl
    split at hl
    · obtain rfl := Option.some.inj hl; simp
    · cases hl
  refine stp_make (L := L) (R := Sc (fun x : Value => x)) ho T hx hy hl2 (fun _ _ => rfl) ?_
  intro v w' h hn hg _
  have h := idv_eq.1 h
  have hd : OwD w' e1 e2 (.tuple (v :: List.replicate ls.length (.slice none 0 0)).toArray) v ls := by
    refine ⟨_, rfl, h, by simp, fun i a b => ?_, ?_⟩
    · have h1 : (List.replicate ls.length (Value.slice none 0 0))[i] = .slice none 0 0 := by simp
      have h2 : ls[i] = [] := by
        have := congrArg (·[i]?) hls
        simp only [List.getElem?_eq_getElem b, List.getElem?_replicate, if_pos b] at this
        exact Option.some.inj this
      rw [h1, h2]; exact OwK.nil _ _ _ _
    · rw [List.pairwise_cons]
      refine ⟨fun a ha k _ hk2 => ?_, ?_⟩
      · rw [List.mem_replicate.1 ha |>.2] at hk2; cases hk2
      · refine List.pairwise_replicate.2 (.inr fun k hk => by cases hk)
  have hnG : Nw w (.tuple (v :: List.replicate ls.length (.slice none 0 0)).toArray) := fun k hk => by
    rcases hs_grp.1 hk with hk | ⟨x, hx, hk⟩
    · exact hn k (.inl hk)
    · rw [List.mem_replicate.1 hx |>.2] at hk; cases hk
  exact hk _ v w' hd hnG hg (Lift.new L hg hnG)
/-- A row is told. -/
theorem loadD {x : Operand} {t e1 e2 : TypeId} {z : Value} {bytes : Nat} {i : Int} {G u : Value} {ls : List (List UInt8)} {r : List UInt8} (ho : o.op = .load e1 x) (T : TyS P t e1 z bytes) (hx : ev f x = adr u i.toNat) (h : OwD w e1 e2 G u ls) (hi : idx ls i = some r) :
    ∃ v, Qt P o f w v ∧ DAt G i.toNat v := by
  obtain ⟨us, rfl, h1, hl, h2, h3⟩ := h
  obtain ⟨h0, hlt, _⟩ := idx_some.1 hi
  have hid : idx us i = some (us[i.toNat]'(by omega)) := by unfold idx; rw [if_pos h0]; simp
  exact ⟨us[i.toNat]'(by omega), q_loadS (enc := fun x : Value => x) ho T hx ((idv_eq (L := []).2 h1).rd idv_stab) hid, u, us, rfl, by simp⟩
section
variable {ops : Array Oper} {K : (Nat → Value) → World → Prop} {rr : List Oper} {d : Nat}
theorem wlq_loadD {x : Operand} {t e1 e2 : TypeId} {z : Value} {bytes : Nat} {i : Int} {G u : Value} {ls : List (List UInt8)} {r : List UInt8} (hw : wantF ops f o = true) (hd : o.dst = some d) (ho : o.op = .load e1 x) (T : TyS P t e1 z bytes) (hx : ev f x = adr u i.toNat) (h : OwD w e1 e2 G u ls) (hi : idx ls i = some r)
    (hk : ∀ v, DAt G i.toNat v → wl P ops K rr (upd f d v) w) : wl P ops K (o :: rr) f w := by
  obtain ⟨v, h1, h2⟩ := loadD ho T hx h hi
  exact wlq hw hd h1 (hk v h2)
end
section
variable {ops : Array Oper} {qs : List Nat} {K : (Nat → Value) → World → Prop} {rr : List (Nat × Nat)} {d j : Nat}
theorem wsq_loadD {x : Operand} {t e1 e2 : TypeId} {z : Value} {bytes : Nat} {i : Int} {G u : Value} {ls : List (List UInt8)} {r : List UInt8} (hj : ops[j]? = some o) (hw : wantF ops f o = true) (hd : o.dst = some d) (ho : o.op = .load e1 x) (T : TyS P t e1 z bytes) (hx : ev f x = adr u i.toNat) (h : OwD w e1 e2 G u ls) (hi : idx ls i = some r)
    (hk : ∀ v, DAt G i.toNat v → ws P ops qs K rr (upd f d v) w) : ws P ops qs K ((j, 1) :: rr) f w := by
  obtain ⟨v, h1, h2⟩ := loadD ho T hx h hi
  exact wsq hj hw hd h1 (hk v h2)
end
/-- u[i][k] = x -/
theorem stp_storeD (L1 L2 : List Value) {x y : Operand} {t e1 e2 : TypeId} {z v : Value} {bytes : Nat} {i k : Int} {G u : Value} {ls : List (List UInt8)} {r : List UInt8} {a c : UInt8} (ho : o.op = .store e2 x y) (T : TyS P t e2 z bytes) (hx : ev f x = adr v k.toNat) (hy : ev f y = u8 a)
    (h : OwD w e1 e2 G u ls) (hd : DAt G i.toNat v) (hi : idx ls i = some r) (hc : idx r k = some c)
    {K : Value → World → Prop} (hk : ∀ w', OwD w' e1 e2 G u (ls.set i.toNat (r.set k.toNat a)) → Gr w w' G → Lift w w' (L1 ++ G :: L2) (L1 ++ G :: L2) → K undef w') : Stp P o f w K := by
  obtain ⟨hlt, hor, _⟩ := h.row hd
  obtain ⟨_, _, rfl⟩ := idx_some.1 hi
  refine stp_store (R := Sc u8) (u := u8 a) (Sc.stab _) [] [] ho T hx hy (hor.scal _) (put_of a hc) rfl rfl ?_
  intro w' h' hg _
  obtain ⟨q1, q2⟩ := h.upd hd h' hg
  exact hk w' q1 q2 (Lift.own L1 L2 q2 (Nx.refl _ _))
theorem drow_whole {e1 e2 : TypeId} {i : Int} {G u v : Value} {ls : List (List UInt8)} {r : List UInt8} (h : OwD w e1 e2 G u ls) (hd : DAt G i.toNat v) (hi : idx ls i = some r) : v = subV v (0 : Int).toNat r.length := by
  obtain ⟨hlt, hor, _⟩ := h.row hd
  obtain ⟨_, _, rfl⟩ := idx_some.1 hi
  exact copy_whole hor
/-- copy(u[i][off:], x) -/
theorem stp_copyD (L1 L2 : List Value) {d x : Operand} {t e1 e2 : TypeId} {z v dv s : Value} {bytes : Nat} {i off : Int} {G u : Value} {ls : List (List UInt8)} {r m : List UInt8} (ho : o.op = .call ⟨.builtin .copy, #[d, x], #[t, t]⟩) (T : TyS P t e2 z bytes) (hdd : ev f d = dv) (hx : ev f x = s)
    (h : OwD w e1 e2 G u ls) (hd : DAt G i.toNat v) (hi : idx ls i = some r) (hdv : dv = subV v off.toNat r.length) (h0 : 0 ≤ off) (hoff : off ≤ r.length) {Lu : List Value} (hu : By w Lu s m)
    {K : Value → World → Prop} (hk : ∀ w', OwD w' e1 e2 G u (ls.set i.toNat (copyL r off m)) → Gr w w' G → Lift w w' (L1 ++ G :: L2) (L1 ++ G :: L2) → K (i64 (min m.length (r.length - off.toNat) : Nat)) w') : Stp P o f w K := by
  obtain ⟨hlt, hor, _⟩ := h.row hd
  obtain ⟨_, _, rfl⟩ := idx_some.1 hi
  refine stp_copy (R := Sc u8) (Sc.stab _) [] [] ho T hdd hx (hor.scal _) hdv h0 hoff hu (fun _ _ h => h) oc_u8 ?_
  intro w' h' hg _
  obtain ⟨q1, q2⟩ := h.upd hd h' hg
  exact hk w' q1 q2 (Lift.own L1 L2 q2 (Nx.refl _ _))
/-- u[i] = x, x a row that is owned: it goes into the group. -/
theorem stp_storeRow (L1 L2 : List Value) {Lx : List Value} {a y : Operand} {t e1 e2 : TypeId} {z x : Value} {bytes : Nat} {i : Int} {G u : Value} {ls : List (List UInt8)} {r xs : List UInt8} (ho : o.op = .store e1 a y) (T : TyS P t e1 z bytes) (hx : ev f a = adr u i.toNat) (hy : ev f y = x)
    (h : OwD w e1 e2 G u ls) (hi : idx ls i = some r) (hxo : OwK (Sc u8) w Lx e2 x xs) (hq : Nq x G)
    {K : Value → World → Prop} (hk : ∀ G' w', OwD w' e1 e2 G' u (ls.set i.toNat xs) → Gr w w' G → (∀ k, Hs G' k → Hs G k ∨ Hs x k) → Lift w w' (L1 ++ G :: L2) (L1 ++ G :: L2) → K undef w') : Stp P o f w K := by
  obtain ⟨us, rfl, h1, hl, h2, h3⟩ := h
  obtain ⟨h0, hlt, rfl⟩ := idx_some.1 hi
  have hid : idx us i = some (us[i.toNat]'(by omega)) := by unfold idx; rw [if_pos h0]; simp
  refine stp_store (R := Sc (fun x : Value => x)) (u := x) idv_stab [] [] ho T hx hy (idv_eq.2 h1) (put_of x hid) rfl (oc_own hxo) ?_
  intro w' h' hg _
  have h' := idv_eq.1 h'
  have hxs : ∀ k, Hs x k → oB x = some k := fun k hk => by
    obtain ⟨us', h5, _⟩ := hxo
    rcases h5 with ⟨p, rfl, _⟩ | ⟨g, cap, rfl, _⟩ <;> exact hs_sl hk
  have hus : ∀ k, Hs u k → oB u = some k := fun k hk => by
    rcases h1 with ⟨p, rfl, _⟩ | ⟨g, cap, rfl, _⟩ <;> exact hs_sl hk
  have hgG : Gr w w' (.tuple (u :: us).toArray) := by
    obtain ⟨row, hgr, hr⟩ := hg
    exact ⟨row, hgr, fun k hk => hs_grp.2 (.inl (hus k (hr k hk)))⟩
  have hux : Apt u x := fun k hk1 hk2 => hq k (.inl hk2) (hs_grp.2 (.inl hk1))
  have hrx : ∀ v ∈ us, Apt v x := fun v hv k hk1 hk2 => hq k (.inl hk2) (hs_grp.2 (.inr ⟨v, hv, hk1⟩))
  obtain ⟨row, hgr, hr⟩ := hg
  have hro : ∀ k, row = some k → oB u = some k := fun k hk => hus k (hr k hk)
  refine hk (.tuple (u :: us.set i.toNat x).toArray) w' ⟨us.set i.toNat x, rfl, h', by simpa using hl, fun j a b => ?_, ?_⟩ hgG (fun k hk' => ?_) (Lift.own L1 L2 hgG (Nx.refl _ _))
  · have hj : j < us.length := by simpa using a
    have hj' : j < ls.length := by simpa using b
    simp only [List.getElem_set]
    by_cases hij : i.toNat = j
    · subst hij
      rw [if_pos rfl, if_pos rfl]
      exact (hxo.scal []).keptR hgr (fun k hk1 e => hux k (hro k e) hk1)
    · rw [if_neg hij, if_neg hij]
      exact (h2 j hj hj').keptR hgr (fun k hk1 e => (List.rel_of_pairwise_cons h3 (List.getElem_mem hj)) k (hro k e) hk1)
  · rw [List.pairwise_cons] at h3 ⊢
    refine ⟨fun v hv => ?_, ?_⟩
    · rcases List.mem_or_eq_of_mem_set hv with hv | rfl
      · exact h3.1 v hv
      · exact hux
    · refine List.pairwise_iff_getElem.2 fun p q hp hq' hpq => ?_
      have hp' : p < us.length := by simpa using hp
      have hq'' : q < us.length := by simpa using hq'
      simp only [List.getElem_set]
      have h4 := List.pairwise_iff_getElem.1 h3.2 p q hp' hq'' hpq
      by_cases h5 : i.toNat = p
      · rw [if_pos h5, if_neg (by omega)]
        exact (hrx _ (List.getElem_mem hq'')).symm
      · rw [if_neg h5]
        by_cases h6 : i.toNat = q
        · rw [if_pos h6]; exact hrx _ (List.getElem_mem hp')
        · rw [if_neg h6]; exact h4
  · rcases hs_grp.1 hk' with hk2 | ⟨v, hv, hk2⟩
    · exact .inl (hs_grp.2 (.inl hk2))
    · rcases List.mem_or_eq_of_mem_set hv with hv | rfl
      · exact .inl (hs_grp.2 (.inr ⟨v, hv, hk2⟩))
      · exact .inr (.inl hk2)
end

/-! ### Matrices behind pointers -/
/-- v points to a block whose one cell is a slice that reads as rows; or it is nil. -/
def MxT (T : TypeId) (w : World) (L : List Value) (v : Value) (m : Option (List (List UInt8))) : Prop :=
  (m = none ∧ v = .pointer none) ∨ ∃ l g u, m = some l ∧ v = bp g ∧ Av L g ∧ Blk w g T #[u] ∧ Rw w L u l
theorem MxT.lift {T : TypeId} {w w' : World} {L L' : List Value} {v : Value} {m : Option (List (List UInt8))} (h : MxT T w L v m) (g : Lift w w' L L') : MxT T w' L' v m := by
  rcases h with h | ⟨l, k, u, h1, h2, ha, hB, hR⟩
  · exact .inl h
  · exact .inr ⟨l, k, u, h1, h2, g.av k hB.lt ha, g.blk k _ hB rfl ha, hR.lift g⟩
theorem MxT.some {T : TypeId} {w : World} {L : List Value} {v : Value} {l : List (List UInt8)} {m : Option (List (List UInt8))} (h : MxT T w L v m) (hm : m = some l) : ∃ g u, v = bp g ∧ Blk w g T #[u] ∧ Rw w L u l := by
  rcases h with ⟨h1, _⟩ | ⟨l', k, u, h1, h2, ha, hB, hR⟩
  · rw [h1] at hm; cases hm
  · rw [h1] at hm; obtain rfl := Option.some.inj hm
    exact ⟨k, u, h2, hB, hR⟩
theorem MxT.cells {T : TypeId} {w : World} {L : List Value} {v : Value} {m : Option (List (List UInt8))} (h : MxT T w L v m) : v.cells = #[v] := by
  rcases h with ⟨_, rfl⟩ | ⟨_, _, _, _, rfl, _⟩ <;> rfl
theorem MxT.nil (T : TypeId) (w : World) (L : List Value) : MxT T w L (.pointer none) none := .inl ⟨rfl, rfl⟩
theorem q_eqM {P : Program} {o : Oper} {f : Nat → Value} {T : TypeId} {w : World} {L : List Value} {v : Value} {m : Option (List (List UInt8))} {x y : Operand} {t t' e : TypeId} (ho : o.op = .binOp .eql t x y t') (ht : P.underlying t = some (.pointer e)) (hx : ev f x = v) (hy : ev f y = .pointer none) (h : MxT T w L v m) : Qa P o f (.bool m.isNone) := by
  rcases h with ⟨rfl, rfl⟩ | ⟨l, g, u, rfl, rfl, _⟩
  · exact q_eqP ho ht hx hy
  · exact q_eqP ho ht hx hy
end Gk

/- append of noughts (append(s, make(..)...)); slices.Grow on nothing; slices.Concat. No condition but the length. -/



set_option linter.unusedVariables false
set_option linter.unusedSimpArgs false
namespace Gk
open Go Go.Proofs
section
variable {P : Program} {o : Oper} {f : Nat → Value} {w : World} {L : List Value}
theorem q_cap {α : Type} {R : World → List Value → Value → α → Prop} {p : Option Addr} {n c : Nat} {x : Operand} {t e : TypeId}
    (ho : o.op = .call ⟨.builtin .cap, #[x], #[t]⟩) (ht : P.underlying t = some (.slice e)) (hx : ev f x = .slice p n c) : Qa P o f (i64 c) := by
  intro w'
  rw [exec_builtin _ ho]
  simp [builtin, Builtin.cap_, run_underlying ht, hx, goInt, i64]
theorem zeroCells_one {z : Value} (hz : z.cells = #[z]) (n : Nat) : (Builtin.zeroCells z.cells n).toList = List.replicate n z := by
  apply List.ext_getElem?
  intro i
  simp only [Builtin.zeroCells, hz]
  by_cases h : i < n
  · simp [h, Nat.mod_one]
  · simp [h]
/-- append(s, make([]T, n)...): the run. -/
theorem run_appz {t tn ty e : TypeId} {z v : Value} {bytes : Nat} {us : List Value} (T : TyS P t e z bytes) (htn : P.underlying tn = some (.int .i64)) (h1 : z.oneCell' = true) (h : Ow w e v us) (n : Nat) (hm : us.length + n ≤ most) :
    ∃ v' w', (Builtin.append_ #[t, tn] ty #[v, i64 n]).run P w = .ok v' w' ∧ Ow w' e v' (us ++ List.replicate n z) ∧ Gr w w' v ∧ Nx w v v' := by
  obtain ⟨i, hi, i1, i2, i3⟩ := info_parts T.info
  obtain ⟨b1, b2, b3⟩ := mem_most hm T.fit
  obtain ⟨c1, c2, c3⟩ := mem_most (show n ≤ most by omega) T.fit
  have h63 : ((us.length + n : Nat) : Int) ≤ 9223372036854775807 := by simp only [most] at hm; omega
  have hw : IntKind.i64.wrap (n : Int) = n := by rw [IntKind.wrap_i64]; simp only [most] at hm; omega
  have h48i : ¬ (281474976710656 < (n : Int) * (i.bytes : Int)) := by rw [← Int.natCast_mul, i3]; omega
  have hneg : ¬ ((n : Int) < 0) := by omega
  have made : ∀ (old : Nat), (w.drew.alloc (.cells (us.toArray ++ Builtin.zeroCells z.cells n ++ Builtin.zeroCells z.cells (grownCap w (us.length + n) old e - (us.length + n))) e)).ownsRow 0 e 1
        (.slice (some ⟨w.heap.size, 0, none⟩) (us.length + n) (grownCap w (us.length + n) old e)) (us.length + n) (us ++ List.replicate n z) := fun old => by
    have hge := grownCap_ge w (us.length + n) old e
    refine ⟨by simp, .inr ⟨w.heap.size, _, _, rfl, Nat.zero_le _, heap_alloc_new w.drew _, hge, grownCap_le_maxLen w _ old e b3, ?_, ?_⟩⟩
    · simp only [Array.size_append, List.size_toArray, size_zeroCells, T.cell]
      simp; omega
    · simp only [Array.toList_append, zeroCells_one T.cell]
      exact List.take_left' (by simp)
  have hlen : (us ++ List.replicate n z).length = us.length + n := by simp
  have hnxn : ∀ (v : Value) (n c : Nat), Nx w v (.slice (some ⟨w.heap.size, 0, none⟩) n c) := fun v n c => (Nw.mk w n c).nx v
  by_cases hn : n = 0
  · subst hn
    refine ⟨v, w, ?_, by simpa using h, Gr.refl w v, Nx.refl w v⟩
    have hw0 : IntKind.i64.wrap 0 = 0 := by rw [IntKind.wrap_i64]; rfl
    rcases h with ⟨pv, rfl, rfl⟩ | ⟨g, cap', rfl, hc0, h⟩
    · cases pv <;> simp [Builtin.append_, run_underlying T.sl, run_underlying htn, Go.sizeOf, typeInfo, hi, i64, asInt, asIntOf, storeCells, hw0]
    · obtain ⟨cur, hg, hc, _⟩ := row_spec h
      simp [Builtin.append_, run_underlying T.sl, run_underlying htn, Go.sizeOf, typeInfo, hi, i64, asInt, asIntOf, storeCells, hw0, hc]
  · rcases h with ⟨pv, rfl, rfl⟩ | ⟨g, cap', rfl, hc0, h⟩
    · have hold : (Builtin.firstCells i.size 0 (.slice pv 0 0)).run P w.drew = .ok ([] : List Value).toArray w.drew := by
        cases pv <;> simp [Builtin.firstCells, loadCells, loadCellsFrom]
      have hr := Lib.run_append_grow_zeros (P := P) w t tn ty e i z .i64 .i64 T.sl htn hi i1 pv 0 0 [] hold n (by omega) (by omega) (by omega) (by simpa using h63) (by rw [i3]; rw [Nat.mul_comm]; exact c2) (by rw [i3]; exact growslice_fits (by omega) (by simpa using b1))
      have hmk := made 0
      exact ⟨_, _, hr, Ow.mk (by simp) hmk, Gr.of ⟨rfl, rfl, rfl, by simp, fun k hk _ => alloc_old w.drew _ k hk⟩, hnxn _ _ _⟩
    · obtain ⟨cur, hg, hc, hcm, hcs, htake⟩ := row_spec h
      by_cases hroom : us.length + n ≤ cap'
      · have hst := run_storeCells_at P g us.length e (List.replicate n z) 0 cur w hg (by rw [hcs]; simp; omega) (fun v hv => by rw [(List.mem_replicate.1 hv).2]; exact h1)
        have hr : (Builtin.append_ #[t, tn] ty #[.slice (some ⟨g, 0, none⟩) us.length cap', i64 n]).run P w = .ok (.slice (some ⟨g, 0, none⟩) (us.length + n) cap') (w.setRow g (cur.toList.take us.length ++ List.replicate n z ++ cur.toList.drop (us.length + n)).toArray) := by
          simp only [Nat.add_zero, List.length_replicate] at hst
          have hz0 : ¬ (n * i.size = 0) := by rw [i2]; omega
          simp [Builtin.append_, run_underlying T.sl, run_underlying htn, Go.sizeOf, typeInfo, zeroValue, hi, i1, i64, asInt, asIntOf, hw, hneg, h48i, hroom, hz0, i2, zeroCells_one T.cell, add_off, hst, hn]
        refine ⟨_, _, hr, Ow.mk hlen.symm ⟨by simp, .inr ⟨g, cap', _, rfl, Nat.zero_le _, setRow_heap w g cur _ e _ hg, hroom, hcm, ?_, ?_⟩⟩,
          Gr.of ⟨rfl, rfl, rfl, by simp, fun k _ hk => setRow_other w g k _ (fun e => hk (by rw [oB_pos hc0, e]))⟩, fun k hk => .inl (.inl (by have := hs_sl hk; rw [oB_pos hc0] at *; exact this))⟩
        · simp only [List.size_toArray, List.length_append, List.length_take, List.length_drop, Array.length_toList, List.length_replicate]
          omega
        · rw [Nat.mul_one] at htake
          rw [htake]
          exact List.take_left' (by simp)
      · have holds : ∀ j u, us[j]? = some u → w.cell? ((⟨g, 0, none⟩ : Addr).add j) = some u := World.ownsRow.cells h (g := g) rfl
        have hold : (Builtin.firstCells i.size us.length (.slice (some ⟨g, 0, none⟩) us.length cap')).run P w.drew = .ok us.toArray w.drew := by
          have := run_firstCells_some (P := P) w.drew i.size us.length ⟨g, 0, none⟩ us.length cap' us (by rw [i2]; simp) (fun j u hj => holds j u hj)
          exact this
        have hr := Lib.run_append_grow_zeros (P := P) w t tn ty e i z .i64 .i64 T.sl htn hi i1 (some ⟨g, 0, none⟩) us.length cap' us hold n (by omega) (by omega) (by omega) h63 (by rw [i3]; rw [Nat.mul_comm]; exact c2) (by rw [i3]; exact growslice_fits (by omega) b1)
        exact ⟨_, _, hr, Ow.mk hlen.symm (made cap'), Gr.of ⟨rfl, rfl, rfl, by simp, fun k hk _ => alloc_old w.drew _ k hk⟩, hnxn _ _ _⟩
/-- append(s, make([]T, n)...), s owned. -/
theorem stp_appz {α : Type} {R : World → List Value → Value → α → Prop} (hR : Stab R) {s x : Operand} {t tn e : TypeId} {z v : Value} {bytes : Nat} {l r : List α} {n : Int} {a : α} (L1 L2 : List Value)
    (ho : o.op = .call ⟨.builtin .append, #[s, x], #[t, tn]⟩) (T : TyS P t e z bytes) (htn : P.underlying tn = some (.int .i64)) (h1 : z.oneCell' = true) (hs : ev f s = v) (hx : ev f x = i64 n) (h : OwK R w (L1 ++ v :: L2) e v l) {m : List α} (hz : makeL n a = some m) (hza : ∀ w L, R w L z a) (hm : appL l m = some r)
    {K : Value → World → Prop} (hk : ∀ v' w', OwK R w' (L1 ++ v' :: L2) e v' r → Gr w w' v → Nx w v v' → Lift w w' (L1 ++ v :: L2) (L1 ++ v' :: L2) → K v' w') : Stp P o f w K := by
  obtain ⟨us, hown, hl, he⟩ := h
  obtain ⟨hmost, rfl⟩ := appL_some.1 hm
  unfold makeL at hz
  split at hz
  · rename_i hn
    obtain ⟨k, rfl⟩ := Int.eq_ofNat_of_zero_le hn.1
    obtain rfl := Option.some.inj hz
    simp only [Int.toNat_natCast, List.length_replicate] at hmost ⊢
    obtain ⟨v', w', hr, h2, h3, h4⟩ := run_appz (ty := o.type) T htn h1 hown k (by omega)
    have hlift := Lift.own L1 L2 h3 h4
    refine stp_of_run (v := v') (w' := w') ?_ (hk _ _ ⟨us ++ List.replicate k z, h2, by simp [hl], fun i a1 a2 => ?_⟩ h3 h4 hlift)
    · rw [exec_builtin _ ho]
      simp [builtin, hs, hx, hr]
    · by_cases hi : i < us.length
      · rw [List.getElem_append_left hi, List.getElem_append_left (by omega)]
        exact hR _ _ _ _ _ _ hlift (he i hi (by omega))
      · rw [List.getElem_append_right (by omega), List.getElem_append_right (by omega), List.getElem_replicate, List.getElem_replicate]
        exact hza _ _
  · cases hz
end

def slices_Grow (a0 : List UInt8) (n : Int) : Option (List UInt8) := if 0 ≤ n ∧ n ≤ most then some [] else none
set_option maxRecDepth 100000 in
set_option maxHeartbeats 8000000 in
theorem slices_Grow_calls (a0 : List UInt8) (n : Int) (p0 : Value) (r : List UInt8) (w0 : World) (hp0 : p0 = .slice none 0 0) (H : slices_Grow a0 n = some r) :
    Calls Try.prog 80 [p0, i64 n].toArray w0 (fun e w' => ∃ u0 : Value, e = .returned u0 ∧ Ext w0 w' ∧ Nw w0 u0 ∧ OwK (Sc u8) w' [] 5 u0 r) := by
  subst hp0
  unfold slices_Grow at H
  split at H
  case isFalse => cases H
  rename_i hn
  obtain rfl := Option.some.inj H
  have hE : Ext w0 w0 := Ext.refl w0
  obtain ⟨k, rfl⟩ := Int.eq_ofNat_of_zero_le hn.1
  have hmo : k ≤ 5000000000000 := by have := hn.2; simp only [most] at this; omega
  have hk0 : wI ((k : Int) - wI (0 - 0)) = k := by rw [wI_of (x := 0 - 0) (by decide) (by decide), wI_of (by omega) (by omega)]; omega
  refine calls_W (n := 27) Try.func80 rfl rfl rfl ?_
  refine W_seq ?_
  refine W_reg (by kernel_rfl) ?_
  refine wla rfl rfl (q_assign (v := (.slice none 0 0)) rfl rfl) ?_
  refine wl_nil ?_
  refine W_th ?_
  refine W_seq ?_
  refine W_seq ?_
  refine W_reg (by kernel_rfl) ?_
  refine wla rfl rfl (q_move (v := (i64 k)) rfl rfl) ?_
  refine wla rfl rfl (q_ltI rfl rfl rfl) ?_
  refine wl_nil ?_
  refine W_th ?_
  refine W_cond _ rfl rfl (fun hb => ?_) (fun hb => ?_)
  · have := of_decide_eq_true hb; omega
  refine W_skip ?_
  refine W_th ?_
  refine W_seq ?_
  refine W_seq ?_
  refine W_reg (by kernel_rfl) ?_
  refine wla rfl rfl (q_move (v := (i64 k)) rfl rfl) ?_
  refine wla rfl rfl (q_move (v := (.slice none 0 0)) rfl rfl) ?_
  refine wla rfl rfl (q_cap (α := UInt8) (R := Sc u8) rfl T22.sl rfl) ?_
  refine wla rfl rfl (q_move (v := (.slice none 0 0)) rfl rfl) ?_
  refine wla rfl rfl (q_len_nil rfl T22.sl rfl) ?_
  refine wla rfl rfl (q_subI rfl rfl rfl) ?_
  refine wla rfl rfl (q_subI rfl rfl rfl) ?_
  refine wla rfl rfl (q_assign (v := (i64 (wI ((k : Int) - wI (0 - 0))))) rfl rfl) ?_
  refine wl_nil ?_
  refine W_th ?_
  refine W_seq ?_
  refine W_reg (by kernel_rfl) ?_
  refine wla rfl rfl (q_move (v := (i64 k)) rfl (by show i64 _ = i64 _; rw [hk0])) ?_
  refine wla rfl rfl (q_gtI rfl rfl rfl) ?_
  refine wl_nil ?_
  refine W_th ?_
  refine W_cond _ rfl rfl (fun hb => ?_) (fun hb => ?_)
  · refine W_reg (by kernel_rfl) ?_
    refine wla rfl rfl (q_move (v := (.slice none 0 0)) rfl rfl) ?_
    refine wla rfl rfl (q_move (v := (.slice none 0 0)) rfl rfl) ?_
    refine wla rfl rfl (q_cap (α := UInt8) (R := Sc u8) rfl T22.sl rfl) ?_
    refine wla rfl rfl (q_slice (l := ([] : List UInt8)) (m := []) (R := Sc u8) (w := w0) (L := []) (a := 0) (b := 0) rfl T22 rfl (SlK.nil _ _ _) rfl rfl rfl) ?_
    refine wla rfl rfl (q_move (v := (i64 k)) rfl (by show i64 _ = i64 _; rw [hk0])) ?_
    refine wls rfl rfl (stp_appz (R := (Sc u8)) (v := (.slice none 0 0)) (l := []) (r := List.replicate k 0) (m := List.replicate k 0) (n := (k : Int)) (a := 0) (Sc.stab _) [] [] rfl T22 Try.underlying3 rfl rfl rfl (OwK.nil _ _ _ _) (by unfold makeL; rw [if_pos hn]; simp) (fun _ _ => rfl) (by unfold appL; rw [if_pos (by simp; omega)]; rfl) ?_)
    intro v1 w1 o1 g1 nx1 l1
    obtain ⟨us, hu, hl, he⟩ := o1
    rcases hu with ⟨p, rfl, rfl⟩ | ⟨g, cap, rfl, hc, hrow⟩
    · have : 0 < (k : Int) := of_decide_eq_true hb
      simp at hl; omega
    · have e1 : Ext w0 w1 := hE.grown g1 (Nw.nil _)
      have n1 : Nw w0 (.slice (some ⟨g, 0, none⟩) us.length cap) := Nw.nxt hE (Nw.nil _) nx1
      have h1 : SlK (Sc u8) w1 [] (.slice (some ⟨g, 0, none⟩) us.length cap) (List.replicate k (0 : UInt8)) := (OwK.rd (Sc.stab _) (L := []) ⟨us, .inr ⟨g, cap, rfl, hc, hrow⟩, hl, fun i a b => he i a b⟩)
      have hsub : subV (.slice (some ⟨g, 0, none⟩) us.length cap) (0 : Int).toNat (0 : Int).toNat = .slice (some ⟨g, 0, none⟩) 0 cap := by
        unfold subV
        by_cases h0 : cap = 0
        · omega
        · simp [Addr.add]
      refine wla rfl rfl (q_move (v := (.slice none 0 0)) rfl rfl) ?_
      refine wla rfl rfl (q_len_nil rfl T22.sl rfl) ?_
      refine wla rfl rfl (q_slice (m := []) (a := 0) (b := 0) rfl T22 rfl h1 rfl rfl (by unfold subL; rw [if_pos (by simp)]; simp)) ?_
      refine wla rfl rfl (q_assign (v := .slice (some ⟨g, 0, none⟩) 0 cap) rfl hsub) ?_
      refine wl_nil ?_
      refine W_th ?_
      refine W_seq ?_
      refine W_reg (by kernel_rfl) ?_
      refine wla rfl rfl (q_move (v := .slice (some ⟨g, 0, none⟩) 0 cap) rfl rfl) ?_
      refine wla rfl rfl (q_assign (v := .slice (some ⟨g, 0, none⟩) 0 cap) rfl rfl) ?_
      refine wl_nil ?_
      refine W_th ?_
      refine W_ret ?_
      refine rt1 (.slice (some ⟨g, 0, none⟩) 0 cap) rfl rfl rfl rfl ?_
      obtain ⟨cur, hg, a1, a2, a3, a4⟩ := row_spec hrow
      refine ⟨_, rfl, e1, fun q hq => n1 q ?_, [], .inr ⟨g, cap, rfl, hc, rfl, .inr ⟨g, cap, cur, rfl, Nat.zero_le _, hg, Nat.zero_le _, a2, a3, by simp⟩⟩, rfl, fun i h => absurd h (by simp)⟩
      have := hs_sl hq
      rw [oB_pos hc] at this
      exact .inl (by rw [oB_pos hc]; exact this)
  · refine W_skip ?_
    refine W_th ?_
    refine W_seq ?_
    refine W_reg (by kernel_rfl) ?_
    refine wla rfl rfl (q_move (v := (.slice none 0 0)) rfl rfl) ?_
    refine wla rfl rfl (q_assign (v := (.slice none 0 0)) rfl rfl) ?_
    refine wl_nil ?_
    refine W_th ?_
    refine W_ret ?_
    refine rt1 (.slice none 0 0) rfl rfl rfl rfl ?_
    exact ⟨_, rfl, hE, Nw.nil _, OwK.nil _ _ _ _⟩
/-! slices.Concat[[]byte,byte] -/
noncomputable def slices_Concat_sbytebyte (a0slices : List (List UInt8)) : Option (List UInt8) :=
((iterC (fun s1 : Int × Int =>
(if s1.2 < (a0slices.length : Int) then
((idx a0slices s1.2).bind fun c4 =>
(if (wI (s1.1 + (c4.length : Int))) < 0 then none
else some (.inl ((wI (s1.1 + (c4.length : Int))), (wI (s1.2 + 1))))))
else some (.inr s1.1))) (0, 0)).bind fun x1 =>
((slices_Grow ([] : List UInt8) x1).bind fun r9 =>
((iterC (fun s12 : List UInt8 × Int =>
(if s12.2 < (a0slices.length : Int) then
((idx a0slices s12.2).bind fun c15 =>
((appL s12.1 c15).bind fun c17 => some (.inl (c17, (wI (s12.2 + 1))))))
else some (.inr s12.1))) (r9, 0)).bind fun x12 => some x12)))
set_option maxRecDepth 100000 in
set_option maxHeartbeats 8000000 in
theorem slices_Concat_sbytebyte_calls (a0slices : List (List UInt8)) (p0 : Value) (r : List UInt8) (w0 : World) (hp0 : Rw w0 [] p0 a0slices) (H : slices_Concat_sbytebyte a0slices = some r) :
    Calls Try.prog 64 [p0].toArray w0 (fun e w' => ∃ u0 : Value, e = .returned u0 ∧ Ext w0 w' ∧ Nw w0 u0 ∧ OwK (Sc u8) w' [] 5 u0 r) := by
  have hE : Ext w0 w0 := Ext.refl w0
  unfold slices_Concat_sbytebyte at H
  refine calls_W (n := 36) Try.func64 rfl rfl rfl ?_
  refine W_seq ?_
  refine W_reg (by kernel_rfl) ?_
  refine wla rfl rfl (q_assign (v := (.slice none 0 0)) rfl rfl) ?_
  refine wl_nil ?_
  refine W_th ?_
  refine W_seq ?_
  refine W_reg (by kernel_rfl) ?_
  refine wla rfl rfl (q_assign (v := (i64 0)) rfl rfl) ?_
  refine wl_nil ?_
  refine W_th ?_
  refine W_seq ?_
  refine W_seq ?_
  refine W_reg (by kernel_rfl) ?_
  refine wla rfl rfl (q_move (v := p0) rfl rfl) ?_
  refine wla rfl rfl (q_len rfl T40.sl rfl (hp0.lift (Lift.ext hE _))) ?_
  refine wla rfl rfl (q_move (v := (i64 0)) rfl rfl) ?_
  refine wl_nil ?_
  refine W_th ?_
  obtain ⟨x1, G1, H⟩ := Option.bind_eq_some_iff.1 H
  refine W_mid (fun f w => f 0 = p0 ∧ f 3 = (i64 x1) ∧ f 36 = undef ∧ Ext w0 w) ?_ ?_
  · refine W_block ?_
    refine W_loop (fun s1 f w => f 0 = p0 ∧ f 3 = (i64 s1.1) ∧ f 9 = p0 ∧ f 10 = (i64 ((a0slices.length : Int))) ∧ f 11 = (i64 s1.2) ∧ f 36 = undef ∧ Ext w0 w) G1 ?_ ?_
    · exact ⟨rfl, rfl, rfl, rfl, rfl, rfl, hE⟩
    · rintro s1 _ _ w2 ⟨s0_2, s3_2, s9_2, s10_2, s11_2, s36_2, hE2⟩ H1 hr1
      refine W_seq ?_
      refine W_reg (by kernel_rfl) ?_
      refine wla rfl rfl (q_ltI rfl s11_2 s10_2) ?_
      refine wl_nil ?_
      refine W_th ?_
      refine W_seq ?_
      refine W_cond _ rfl rfl (fun hb3 => ?_) (fun hb3 => ?_)
      · replace H1 := (if_pos (of_decide_eq_true hb3)).symm.trans H1
        refine W_skip ?_
        refine W_th ?_
        refine W_seq ?_
        refine W_block ?_
        refine W_seq ?_
        refine W_reg (by kernel_rfl) ?_
        obtain ⟨c4, hc4, H1⟩ := Option.bind_eq_some_iff.1 H1
        refine wla rfl rfl (q_adr rfl T40 s9_2 s11_2 (hp0.lift (Lift.ext hE2 _)) hc4) ?_
        refine wlq_load rfl rfl rfl T40 rfl hp0 hc4 hE2 (fun v5 ha5 => ?_)
        refine wla rfl rfl (q_assign (v := v5) rfl rfl) ?_
        refine wl_nil ?_
        refine W_th ?_
        refine W_seq ?_
        refine W_reg (by kernel_rfl) ?_
        refine wla rfl rfl (q_move (v := (i64 s1.1)) rfl s3_2) ?_
        refine wla rfl rfl (q_move (v := v5) rfl rfl) ?_
        refine wla rfl rfl (q_len rfl T22.sl rfl (ha5.lift (Lift.ext hE2 _))) ?_
        refine wla rfl rfl (q_addI rfl rfl rfl) ?_
        refine wla rfl rfl (q_assign (v := (i64 ((wI (s1.1 + (c4.length : Int)))))) rfl rfl) ?_
        refine wl_nil ?_
        refine W_th ?_
        refine W_seq ?_
        refine W_reg (by kernel_rfl) ?_
        refine wla rfl rfl (q_move (v := (i64 ((wI (s1.1 + (c4.length : Int)))))) rfl rfl) ?_
        refine wla rfl rfl (q_ltI rfl rfl rfl) ?_
        refine wl_nil ?_
        refine W_th ?_
        refine W_cond _ rfl rfl (fun hb6 => ?_) (fun hb6 => ?_)
        · replace H1 := (if_pos (of_decide_eq_true hb6)).symm.trans H1
          cases H1
        · replace H1 := (if_neg (of_decide_eq_false hb6)).symm.trans H1
          refine W_skip ?_
          refine bk_n ?_
          refine W_th ?_
          refine W_reg (by kernel_rfl) ?_
          refine wla rfl rfl (q_addI rfl s11_2 rfl) ?_
          refine wla rfl rfl (q_move (v := (i64 ((wI (s1.2 + 1))))) rfl rfl) ?_
          refine wl_nil ?_
          obtain rfl := Option.some.inj H1
          exact ⟨_, rfl, s0_2, rfl, s9_2, s10_2, rfl, s36_2, hE2⟩
      · replace H1 := (if_neg (of_decide_eq_false hb3)).symm.trans H1
        refine W_exit ?_
        refine th_x ?_
        obtain rfl := Option.some.inj H1
        obtain rfl := hr1 _ rfl
        refine th_x ?_
        refine bk_x ?_
        exact ⟨s0_2, s3_2, s36_2, hE2⟩
  · rintro _ w8 ⟨s0_8, s3_8, s36_8, hE8⟩
    refine W_th ?_
    refine W_seq ?_
    refine W_reg (by kernel_rfl) ?_
    refine wla rfl rfl (q_move (v := (i64 x1)) rfl s3_8) ?_
    obtain ⟨r9, hr9, H⟩ := Option.bind_eq_some_iff.1 H
    refine wls rfl rfl (stp_call (vs := [(.slice none 0 0), (i64 x1)]) Try.func80 rfl rfl rfl (ar2 rfl rfl) (slices_Grow_calls ([] : List UInt8) x1 (.slice none 0 0) r9 _ rfl hr9) ?_)
    rintro _ w9 ⟨v9, rfl, x9, n9_0, o9_0⟩
    refine ⟨_, rfl, ?_⟩
    have o9 : OwK (Sc u8) w9 (v9 :: []) 5 v9 r9 := OwK.scal o9_0 _
    have n11 := Nw.ext hE8 n9_0
    have e10 := hE8.trans x9
    refine wla rfl rfl (q_assign (v := v9) rfl rfl) ?_
    refine wl_nil ?_
    refine W_th ?_
    refine W_seq ?_
    refine W_seq ?_
    refine W_reg (by kernel_rfl) ?_
    refine wla rfl rfl (q_move (v := p0) rfl s0_8) ?_
    refine wla rfl rfl (q_len rfl T40.sl rfl (hp0.lift (Lift.ext e10 _))) ?_
    refine wla rfl rfl (q_move (v := (i64 0)) rfl rfl) ?_
    refine wl_nil ?_
    refine W_th ?_
    obtain ⟨x12, G12, H⟩ := Option.bind_eq_some_iff.1 H
    refine W_mid (fun f w => ∃ v6_22 : Value, f 6 = v6_22 ∧ f 36 = undef ∧ Ext w0 w ∧ OwK (Sc u8) w [v6_22] 5 v6_22 x12 ∧ Nw w0 v6_22) ?_ ?_
    · refine W_block ?_
      refine W_loop (fun s12 f w => ∃ v6_20 : Value, f 6 = v6_20 ∧ f 25 = p0 ∧ f 26 = (i64 ((a0slices.length : Int))) ∧ f 27 = (i64 s12.2) ∧ f 36 = undef ∧ Ext w0 w ∧ OwK (Sc u8) w [v6_20] 5 v6_20 s12.1 ∧ Nw w0 v6_20) G12 ?_ ?_
      · exact ⟨v9, rfl, rfl, rfl, rfl, s36_8, e10, o9, n11⟩
      · rintro s12 _ _ w13 ⟨v6_13, s6_13, s25_13, s26_13, s27_13, s36_13, hE13, o0_13, n0_13⟩ H12 hr12
        refine W_seq ?_
        refine W_reg (by kernel_rfl) ?_
        refine wla rfl rfl (q_ltI rfl s27_13 s26_13) ?_
        refine wl_nil ?_
        refine W_th ?_
        refine W_seq ?_
        refine W_cond _ rfl rfl (fun hb14 => ?_) (fun hb14 => ?_)
        · replace H12 := (if_pos (of_decide_eq_true hb14)).symm.trans H12
          refine W_skip ?_
          refine W_th ?_
          refine W_seq ?_
          refine W_block ?_
          refine W_seq ?_
          refine W_reg (by kernel_rfl) ?_
          obtain ⟨c15, hc15, H12⟩ := Option.bind_eq_some_iff.1 H12
          refine wla rfl rfl (q_adr rfl T40 s25_13 s27_13 (hp0.lift (Lift.ext hE13 _)) hc15) ?_
          refine wlq_load rfl rfl rfl T40 rfl hp0 hc15 hE13 (fun v16 ha16 => ?_)
          refine wla rfl rfl (q_assign (v := v16) rfl rfl) ?_
          refine wl_nil ?_
          refine W_th ?_
          refine W_reg (by kernel_rfl) ?_
          refine wla rfl rfl (q_move (v := v6_13) rfl s6_13) ?_
          refine wla rfl rfl (q_move (v := v16) rfl rfl) ?_
          obtain ⟨c17, hc17, H12⟩ := Option.bind_eq_some_iff.1 H12
          refine wls rfl rfl (stp_append (R := (Sc u8)) (v := v6_13) (u := v16) (Sc.stab _) [] [] rfl T22 rfl rfl o0_13 (ha16.lift (Lift.ext hE13 _)) (fun _ _ h => h) hc17 oc_u8 ?_)
          intro v17 w17 o17 g17 nx17 l17
          have e18 := hE13.grown g17 n0_13
          have n19 := Nw.nxt hE13 n0_13 nx17
          refine wla rfl rfl (q_assign (v := v17) rfl rfl) ?_
          refine wl_nil ?_
          refine bk_n ?_
          refine W_th ?_
          refine W_reg (by kernel_rfl) ?_
          refine wla rfl rfl (q_addI rfl s27_13 rfl) ?_
          refine wla rfl rfl (q_move (v := (i64 ((wI (s12.2 + 1))))) rfl rfl) ?_
          refine wl_nil ?_
          obtain rfl := Option.some.inj H12
          exact ⟨_, rfl, v17, rfl, s25_13, s26_13, rfl, s36_13, e18, o17, n19⟩
        · replace H12 := (if_neg (of_decide_eq_false hb14)).symm.trans H12
          refine W_exit ?_
          refine th_x ?_
          obtain rfl := Option.some.inj H12
          obtain rfl := hr12 _ rfl
          refine th_x ?_
          refine bk_x ?_
          exact ⟨v6_13, s6_13, s36_13, hE13, o0_13, n0_13⟩
    · rintro _ w21 ⟨v6_21, s6_21, s36_21, hE21, o0_21, n0_21⟩
      refine W_th ?_
      refine W_seq ?_
      refine W_reg (by kernel_rfl) ?_
      refine wla rfl rfl (q_move (v := v6_21) rfl s6_21) ?_
      refine wla rfl rfl (q_assign (v := v6_21) rfl rfl) ?_
      refine wl_nil ?_
      refine W_th ?_
      refine W_ret ?_
      obtain rfl := Option.some.inj H
      refine rt1 v6_21 rfl rfl rfl s36_21 ?_
      exact ⟨v6_21, rfl, hE21, n0_21, (o0_21.weak (Sc.stab _) (fun _ _ => trivial))⟩

end Gk

/- Cuts with three numbers; results that are read and not owned; rows that are put behind rows; rows that grow in their place. No condition. -/

set_option linter.unusedVariables false
set_option linter.unusedSimpArgs false
namespace Gk
open Go Go.RowKit
def subL3 {α : Type} (l : List α) (lo hi mx : Int) : Option (List α) := if 0 ≤ lo ∧ lo ≤ hi ∧ hi ≤ mx ∧ mx ≤ l.length then some ((l.take hi.toNat).drop lo.toNat) else none
theorem subL3_some {α : Type} {l m : List α} {lo hi mx : Int} : subL3 l lo hi mx = some m ↔ (0 ≤ lo ∧ lo ≤ hi ∧ hi ≤ mx ∧ mx ≤ l.length) ∧ (l.take hi.toNat).drop lo.toNat = m := by
  unfold subL3
  by_cases h : 0 ≤ lo ∧ lo ≤ hi ∧ hi ≤ mx ∧ mx ≤ l.length
  · rw [if_pos h]; simp [h]
  · rw [if_neg h]; simp [h]
section
variable {P : Program} {o : Oper} {f : Nat → Value} {w : World} {L : List Value}
theorem q_slice3 {α : Type} {R : World → List Value → Value → α → Prop} {v z : Value} {l m : List α} {x y y' : Operand} {t e : TypeId} {bytes : Nat} {lo : Option Operand} {a b c : Int}
    (ho : o.op = .slice t x lo (some y) (some y')) (T : TyS P t e z bytes) (hx : ev f x = v) (h : SlK R w L v l)
    (hlo : match lo with | none => a = 0 | some q => ev f q = i64 a) (hy : ev f y = i64 b) (hy' : ev f y' = i64 c) (hs : subL3 l a b c = some m) : Qa P o f (subW v a.toNat b.toNat c.toNat) := by
  intro w'
  obtain ⟨p, cap, rfl, hc⟩ := h.shape
  obtain ⟨⟨h0, h1, h2, h3⟩, _⟩ := subL3_some.1 hs
  have hm : ∀ k w, (Instr.sliceBound (i64 c) cap k).run P w = .ok c.toNat w := fun k w => run_bound rfl (by omega) (by omega) w
  have hb : ∀ k w, (Instr.sliceBound (i64 b) c.toNat k).run P w = .ok b.toNat w := fun k w => run_bound rfl (by omega) (by omega) w
  have ha : ∀ k w, (Instr.sliceBound (i64 a) b.toNat k).run P w = .ok a.toNat w := fun k w => run_bound rfl (by omega) (by omega) w
  cases lo with
  | none =>
    dsimp only at hlo; subst hlo
    simp [execOp, ho, hx, hy, hy', Instr.sliceAt, run_underlying T.sl, Instr.slice, Instr.sliceBounds, ty_size T, hb, hm, subW]
  | some q =>
    dsimp only at hlo
    simp [execOp, ho, hx, hlo, hy, hy', Instr.sliceAt, run_underlying T.sl, Instr.slice, Instr.sliceBounds, ty_size T, ha, hb, hm, subW]
theorem Sl.cut3 {v : Value} {us : List Value} (h : Sl w L v us) (lo hi mx : Nat) (h1 : lo ≤ hi) (h2 : hi ≤ mx) (h3 : mx ≤ us.length) : Sl w L (subW v lo hi mx) ((us.take hi).drop lo) := by
  obtain ⟨p, cap, rfl, hc, hne⟩ := h
  have hlen : ((us.take hi).drop lo).length = hi - lo := by simp; omega
  refine ⟨_, mx - lo, by unfold subW; rw [hlen], by rw [hlen]; omega, fun hn => ?_⟩
  have h0 : 0 < hi - lo := by rw [← hlen]; exact List.length_pos_iff.2 hn
  obtain ⟨b, off, rfl, ha, hr⟩ := hne (fun e => by subst e; simp at h3; omega)
  refine ⟨b, off + lo, ?_, ha, fun i hi' => ?_⟩
  · rw [if_neg (by omega)]; simp [add_off]
  · rw [hlen] at hi'
    have := hr (lo + i) (by omega)
    rw [Nat.add_assoc, this]
    simp
theorem SlK.cut3 {α : Type} {R : World → List Value → Value → α → Prop} {v : Value} {l m : List α} (h : SlK R w L v l) {lo hi mx : Int} (hs : subL3 l lo hi mx = some m) : SlK R w L (subW v lo.toNat hi.toNat mx.toNat) m := by
  obtain ⟨us, hu, hl, he⟩ := h
  obtain ⟨⟨h0, h1, h2, h3⟩, rfl⟩ := subL3_some.1 hs
  refine ⟨_, hu.cut3 lo.toNat hi.toNat mx.toNat (by omega) (by omega) (by omega), by simp [hl], fun i a b => ?_⟩
  simp only [List.getElem_drop, List.getElem_take]
  exact he _ _ _
theorem oB_add {p : Option Addr} {n n' c c' d : Nat} {q : Prop} [Decidable q] {k : Nat} (hc : 0 < c) (h : oB (.slice (if q then p else p.map (·.add d)) n' c') = some k) : oB (.slice p n c) = some k := by
  cases c with
  | zero => omega
  | succ c =>
    cases p with
    | none => split at h <;> cases h
    | some a =>
      cases c' with
      | zero => split at h <;> simp [oB] at h
      | succ c' =>
        split at h
        · exact h
        · simp only [Option.map_some, oB] at h ⊢
          rw [← h]
          unfold Addr.add
          split <;> rfl
theorem hs_cut3 {α : Type} {R : World → List Value → Value → α → Prop} {v : Value} {l m : List α} (h : SlK R w L v l) {lo hi mx : Int} (hs : subL3 l lo hi mx = some m) : ∀ k, Hs (subW v lo.toNat hi.toNat mx.toNat) k → Hs v k := by
  intro k hk
  obtain ⟨p, cap, rfl, hc⟩ := h.shape
  obtain ⟨⟨h0, h1, h2, h3⟩, _⟩ := subL3_some.1 hs
  have hk := hs_sl hk
  by_cases h4 : 0 < cap
  · exact .inl (oB_add h4 hk)
  · rw [show mx.toNat - lo.toNat = 0 by omega] at hk
    cases hp : (if mx.toNat = lo.toNat then p else p.map (·.add lo.toNat)) <;> rw [hp] at hk <;> cases hk
theorem hs_cut {α : Type} {R : World → List Value → Value → α → Prop} {v : Value} {l m : List α} (h : SlK R w L v l) {lo hi : Int} (hs : subL l lo hi = some m) : ∀ k, Hs (subV v lo.toNat hi.toNat) k → Hs v k := by
  intro k hk
  obtain ⟨p, cap, rfl, hc⟩ := h.shape
  have hk := hs_sl hk
  by_cases h4 : 0 < cap
  · exact .inl (oB_add h4 hk)
  · rw [show cap - lo.toNat = 0 by omega] at hk
    cases hp : (if cap = lo.toNat then p else p.map (·.add lo.toNat)) <;> rw [hp] at hk <;> cases hk
theorem SlK.avail {α : Type} {enc : α → Value} {v : Value} {l : List α} (h : SlK (Sc enc) w [] v l) (L : List Value) (ha : ∀ k, Hs v k → Av L k) : SlK (Sc enc) w L v l := by
  obtain ⟨us, ⟨p, cap, rfl, hc, hne⟩, hl, he⟩ := h
  refine ⟨us, ⟨p, cap, rfl, hc, fun hn => ?_⟩, hl, he⟩
  obtain ⟨b, off, rfl, _, hr⟩ := hne hn
  refine ⟨b, off, rfl, ha b (.inl ?_), hr⟩
  have h1 : 0 < us.length := List.length_pos_iff.2 hn
  cases cap with
  | zero => omega
  | succ c => rfl
end

/-- The value itself, of one cell. -/
def Id1 (_ : World) (_ : List Value) (u x : Value) : Prop := u = x ∧ x.oneCell' = true
theorem id1_stab : Stab Id1 := fun _ _ _ _ _ _ _ h => h
theorem id1_own {w : World} {L : List Value} {e : TypeId} {v : Value} {us : List Value} (h : Ow w e v us) (h1 : ∀ x ∈ us, x.oneCell' = true) : OwK Id1 w L e v us := ⟨us, h, rfl, fun i a _ => ⟨rfl, h1 _ (List.getElem_mem a)⟩⟩
theorem id1_back {w : World} {L : List Value} {e : TypeId} {v : Value} {us : List Value} (h : OwK Id1 w L e v us) : Ow w e v us := by
  obtain ⟨us', h1, h2, h3⟩ := h
  have : us' = us := List.ext_getElem h2 (fun i a b => (h3 i a b).1)
  rw [← this]; exact h1
theorem id1_sl {w : World} {L : List Value} {v : Value} {us : List Value} (h : SlK (Sc (fun x : Value => x)) w L v us) (h1 : ∀ x ∈ us, x.oneCell' = true) : SlK Id1 w L v us := by
  obtain ⟨us', h2, h3, h4⟩ := h
  exact ⟨us', h2, h3, fun i a b => ⟨h4 i a b, h1 _ (List.getElem_mem b)⟩⟩
theorem ob_own {α : Type} {R : World → List Value → Value → α → Prop} {w : World} {L : List Value} {e : TypeId} {x : Value} {l : List α} (h : OwK R w L e x l) : ∀ k, Hs x k → oB x = some k := fun k hk => by
  obtain ⟨us', h5, _⟩ := h
  rcases h5 with ⟨p, rfl, _⟩ | ⟨g, cap, rfl, _⟩ <;> exact hs_sl hk
theorem ob_ow {w : World} {e : TypeId} {x : Value} {us : List Value} (h5 : Ow w e x us) : ∀ k, Hs x k → oB x = some k := fun k hk => by
  rcases h5 with ⟨p, rfl, _⟩ | ⟨g, cap, rfl, _⟩ <;> exact hs_sl hk
theorem hs_nilG {k : Nat} : ¬ Hs (.tuple #[.slice none 0 0]) k := fun h => by
  obtain ⟨x, hx, e⟩ := hs_tup h
  have hx : x ∈ [Value.slice none 0 0] := hx
  rw [List.mem_singleton.1 hx] at e; cases e
theorem nh_nilG {k : Nat} : ¬ Hs (.tuple #[.slice none 0 0]) k := hs_nilG
theorem nq_nilG (u : Value) : Nq u (.tuple #[.slice none 0 0]) := fun _ _ h => hs_nilG h
theorem nw_nilG (w : World) : Nw w (.tuple #[.slice none 0 0]) := fun _ h => absurd h hs_nilG
theorem OwD.nil (w : World) (e1 e2 : TypeId) : OwD w e1 e2 (.tuple #[.slice none 0 0]) (.slice none 0 0) [] := ⟨[], rfl, Ow.nil w e1, rfl, fun i h => absurd h (by simp), by simp⟩
theorem litV {w : World} {L : List Value} {e : TypeId} {x : Value} {xs : List UInt8} (h : OwK (Sc u8) w L e x xs) : ∀ u ∈ [x], u.cells = #[u] := fun u hu => by
  rw [List.mem_singleton.1 hu]
  obtain ⟨us, h1, _⟩ := h
  rcases h1 with ⟨p, rfl, _⟩ | ⟨g, cap, rfl, _⟩ <;> rfl
section
variable {P : Program} {f : Nat → Value} {w : World} {o : Oper}
/-- append(u, x), u owned with all rows, x a row that is owned: it goes into the group. -/
theorem stp_appendD (L1 L2 : List Value) {Lx Lu : List Value} {s y : Operand} {t e1 e2 : TypeId} {z x q : Value} {bytes : Nat} {G u : Value} {ls r : List (List UInt8)} {xs : List UInt8} (ho : o.op = .call ⟨.builtin .append, #[s, y], #[t, t]⟩) (T : TyS P t e1 z bytes) (hs : ev f s = u) (hy : ev f y = q)
    (h : OwD w e1 e2 G u ls) (hq : SlK (Sc (fun x : Value => x)) w Lu q [x]) (hxo : OwK (Sc u8) w Lx e2 x xs) (hn : Nq x G) (hm : appL ls [xs] = some r)
    {K : Value → World → Prop} (hk : ∀ Gm G' u' w', OwD w' e1 e2 G' u' r → Gr w w' G → Nx w G Gm → (∀ k, Hs G' k → Hs Gm k ∨ Hs x k) → Lift w w' (L1 ++ G :: L2) (L1 ++ Gm :: L2) → K u' w') : Stp P o f w K := by
  have hlt := h.lt
  obtain ⟨us, rfl, h1, hl, h2, h3⟩ := h
  have hm2 : appL us [x] = some (us ++ [x]) := by
    obtain ⟨a1, _⟩ := appL_some.1 hm
    exact appL_some.2 ⟨by simp at a1 ⊢; omega, rfl⟩
  obtain ⟨hmm, rfl⟩ := appL_some.1 hm
  have hc : ∀ v ∈ us, v.oneCell' = true := fun v hv => by
    obtain ⟨i, hi, rfl⟩ := List.getElem_of_mem hv
    exact oc_own (h2 i hi (by omega))
  have hcx : x.oneCell' = true := oc_own hxo
  refine stp_append (R := Id1) id1_stab [] [] ho T hs hy (id1_own h1 hc) (id1_sl hq (fun v hv => by rw [List.mem_singleton.1 hv]; exact hcx)) (fun _ _ h => h) hm2 (fun w L u x h => by rw [h.1]; exact h.2) ?_
  intro u' w' hu' hg hnx _
  have hu' := id1_back hu'
  have hus := ob_ow h1
  have hxs := ob_own hxo
  have hgG : Gr w w' (.tuple (u :: us).toArray) := by
    obtain ⟨row, hgr, hr⟩ := hg
    exact ⟨row, hgr, fun k hk => hs_grp.2 (.inl (hus k (hr k hk)))⟩
  have hux : Apt u x := fun k hk1 hk2 => hn k (.inl hk2) (hs_grp.2 (.inl hk1))
  have hrx : ∀ v ∈ us, Apt v x := fun v hv k hk1 hk2 => hn k (.inl hk2) (hs_grp.2 (.inr ⟨v, hv, hk1⟩))
  have hNx : Nx w (.tuple (u :: us).toArray) (.tuple (u' :: us).toArray) := fun k hk => by
    rcases hs_grp.1 hk with hk | ⟨v, hv, hk⟩
    · rcases hnx k (.inl hk) with h4 | h4
      · exact .inl (hs_grp.2 (.inl (hus k h4)))
      · exact .inr h4
    · exact .inl (hs_grp.2 (.inr ⟨v, hv, hk⟩))
  obtain ⟨row, hgr, hr⟩ := hg
  have hro : ∀ k, row = some k → oB u = some k := fun k hk => hus k (hr k hk)
  refine hk (.tuple (u' :: us).toArray) (.tuple (u' :: (us ++ [x])).toArray) u' w' ⟨us ++ [x], rfl, hu', by simp [hl], fun j a b => ?_, ?_⟩ hgG hNx (fun k hk' => ?_) (Lift.own L1 L2 hgG hNx)
  · by_cases hj : j < us.length
    · rw [List.getElem_append_left hj, List.getElem_append_left (by omega)]
      exact (h2 j hj (by omega)).keptR hgr (fun k hk1 e => (List.rel_of_pairwise_cons h3 (List.getElem_mem hj)) k (hro k e) hk1)
    · have hj2 : j = us.length := by simp at a; omega
      subst hj2
      simp only [List.getElem_append_right (Nat.le_refl _), hl, Nat.sub_self, List.getElem_cons_zero]
      rw [List.getElem_append_right (by omega)]
      simp only [hl, Nat.sub_self, List.getElem_cons_zero]
      exact (hxo.scal []).keptR hgr (fun k hk1 e => hux k (hro k e) hk1)
  · rw [List.pairwise_cons] at h3 ⊢
    refine ⟨fun v hv k hk1 hk2 => ?_, ?_⟩
    · rcases hnx k (.inl hk1) with h4 | h4
      · have h5 := hus k h4
        rcases List.mem_append.1 hv with hv | hv
        · exact h3.1 v hv k h5 hk2
        · rw [List.mem_singleton.1 hv] at hk2; exact hux k h5 hk2
      · rcases List.mem_append.1 hv with hv | hv
        · have := hlt k (hs_grp.2 (.inr ⟨v, hv, hk2⟩)); omega
        · rw [List.mem_singleton.1 hv] at hk2
          have := hxo.lt k (.inl hk2); omega
    · rw [List.pairwise_append]
      refine ⟨h3.2, by simp, fun a ha b hb => ?_⟩
      rw [List.mem_singleton.1 hb]; exact hrx a ha
  · rcases hs_grp.1 hk' with hk2 | ⟨v, hv, hk2⟩
    · exact .inl (hs_grp.2 (.inl hk2))
    · rcases List.mem_append.1 hv with hv | hv
      · exact .inl (hs_grp.2 (.inr ⟨v, hv, hk2⟩))
      · rw [List.mem_singleton.1 hv] at hk2; exact .inr (.inl hk2)
/-- The row at i, grown: not yet put back. -/
def Pnd (w : World) (e2 : TypeId) (G : Value) (i : Nat) (x' : Value) (r' : List UInt8) : Prop :=
  OwK (Sc u8) w [] e2 x' r' ∧ ∀ k, Hs x' k → (∃ x, DAt G i x ∧ oB x = some k) ∨ ¬ Hs G k
/-- append(u[i], m...), the row of the group. -/
theorem stp_appendRow (L1 L2 : List Value) {s y : Operand} {t e1 e2 : TypeId} {z v q : Value} {bytes : Nat} {i : Int} {G u : Value} {ls : List (List UInt8)} {r m r' : List UInt8} (ho : o.op = .call ⟨.builtin .append, #[s, y], #[t, t]⟩) (T : TyS P t e2 z bytes) (hs : ev f s = v) (hy : ev f y = q)
    (h : OwD w e1 e2 G u ls) (hd : DAt G i.toNat v) (hi : idx ls i = some r) {Lu : List Value} (hq : SlK (Sc u8) w Lu q m) (hm : appL r m = some r')
    {K : Value → World → Prop} (hk : ∀ x' w', Pnd w' e2 G i.toNat x' r' → OwD w' e1 e2 G u ls → Gr w w' G → Nx w G x' → Lift w w' (L1 ++ G :: L2) (x' :: (L1 ++ G :: L2)) → K x' w') : Stp P o f w K := by
  obtain ⟨hlt, hor, hsub⟩ := h.row hd
  have hG := h.lt
  obtain ⟨_, _, rfl⟩ := idx_some.1 hi
  refine stp_append2 (R := Sc u8) (Sc.stab _) [] [] ho T hs hy (hor.scal _) hq (fun _ _ h => h) hm oc_u8 ?_
  intro x' w' hx' hg hnx _ hold
  have hb := ob_own hor
  have hNx : Nx w G x' := fun k hk => (hnx k hk).imp (hsub k) id
  have hgG : Gr w w' G := by
    obtain ⟨row, hgr, hr⟩ := hg
    exact ⟨row, hgr, fun k hk => hsub k (hr k hk)⟩
  refine hk x' w' ⟨hx'.scal [], fun k hk1 => ?_⟩ ?_ hgG hNx ⟨fun k o ho hc ha => ?_, fun k hk1 ha => ⟨fun e => ?_, ha⟩⟩
  · rcases hnx k hk1 with h4 | h4
    · exact .inl ⟨v, hd, hb k h4⟩
    · exact .inr fun h5 => by have := hG k h5; omega
  · have := (h.upd (r := ls[i.toNat]) hd (hold.scal []) hg).1
    rwa [List.set_getElem_self] at this
  · exact (Lift.own L1 L2 hgG (Nx.refl _ _)).blk k o ho hc ha
  · rcases hNx k e with h4 | h4
    · exact (av_append.1 ha).2.1 h4
    · omega
/-- u[i] = the row that was grown. -/
theorem stp_storePnd (L1 L2 : List Value) {a y : Operand} {t e1 e2 : TypeId} {z x : Value} {bytes : Nat} {i : Int} {G u : Value} {ls : List (List UInt8)} {r xs : List UInt8} (ho : o.op = .store e1 a y) (T : TyS P t e1 z bytes) (hx : ev f a = adr u i.toNat) (hy : ev f y = x)
    (h : OwD w e1 e2 G u ls) (hi : idx ls i = some r) (hp : Pnd w e2 G i.toNat x xs)
    {K : Value → World → Prop} (hk : ∀ G' w', OwD w' e1 e2 G' u (ls.set i.toNat xs) → Gr w w' G → (∀ k, Hs G' k → Hs G k ∨ Hs x k) → Lift w w' (L1 ++ G :: L2) (L1 ++ G :: L2) → K undef w') : Stp P o f w K := by
  obtain ⟨us, rfl, h1, hl, h2, h3⟩ := h
  obtain ⟨hxo, hxG⟩ := hp
  obtain ⟨h0, hlt, rfl⟩ := idx_some.1 hi
  have hid : idx us i = some (us[i.toNat]'(by omega)) := by unfold idx; rw [if_pos h0]; simp
  refine stp_store (R := Sc (fun x : Value => x)) (u := x) idv_stab [] [] ho T hx hy (idv_eq.2 h1) (put_of x hid) rfl (oc_own hxo) ?_
  intro w' h' hg _
  have h' := idv_eq.1 h'
  have hxs := ob_own hxo
  have hus := ob_ow h1
  have hgG : Gr w w' (.tuple (u :: us).toArray) := by
    obtain ⟨row, hgr, hr⟩ := hg
    exact ⟨row, hgr, fun k hk => hs_grp.2 (.inl (hus k (hr k hk)))⟩
  have hi' : i.toNat < us.length := by omega
  have hold : ∀ k, oB x = some k → oB us[i.toNat] = some k ∨ ¬ Hs (.tuple (u :: us).toArray) k := fun k hk => by
    rcases hxG k (.inl hk) with ⟨y, ⟨u', us', e, hy⟩, hyk⟩ | h4
    · obtain ⟨rfl, rfl⟩ := List.cons.inj (tup_inj e)
      obtain ⟨_, rfl⟩ := List.getElem?_eq_some_iff.1 hy
      exact .inl hyk
    · exact .inr h4
  have hux : Apt u x := fun k hk1 hk2 => by
    rcases hold k hk2 with h4 | h4
    · exact (List.rel_of_pairwise_cons h3 (List.getElem_mem hi')) k hk1 h4
    · exact h4 (hs_grp.2 (.inl hk1))
  have hrx : ∀ (j : Nat) (hj : j < us.length), j ≠ i.toNat → Apt us[j] x := fun j hj hne k hk1 hk2 => by
    rcases hold k hk2 with h4 | h4
    · have h5 := List.pairwise_iff_getElem.1 (List.pairwise_cons.1 h3).2
      rcases Nat.lt_or_gt_of_ne hne with h6 | h6
      · exact h5 j i.toNat hj hi' h6 k hk1 h4
      · exact h5 i.toNat j hi' hj h6 k h4 hk1
    · exact h4 (hs_grp.2 (.inr ⟨_, List.getElem_mem hj, hk1⟩))
  obtain ⟨row, hgr, hr⟩ := hg
  have hro : ∀ k, row = some k → oB u = some k := fun k hk => hus k (hr k hk)
  refine hk (.tuple (u :: us.set i.toNat x).toArray) w' ⟨us.set i.toNat x, rfl, h', by simpa using hl, fun j a b => ?_, ?_⟩ hgG (fun k hk' => ?_) (Lift.own L1 L2 hgG (Nx.refl _ _))
  · have hj : j < us.length := by simpa using a
    have hj' : j < ls.length := by simpa using b
    simp only [List.getElem_set]
    by_cases hij : i.toNat = j
    · subst hij
      rw [if_pos rfl, if_pos rfl]
      exact hxo.keptR hgr (fun k hk1 e => hux k (hro k e) hk1)
    · rw [if_neg hij, if_neg hij]
      exact (h2 j hj hj').keptR hgr (fun k hk1 e => (List.rel_of_pairwise_cons h3 (List.getElem_mem hj)) k (hro k e) hk1)
  · rw [List.pairwise_cons] at h3 ⊢
    refine ⟨fun v hv => ?_, ?_⟩
    · rcases List.mem_or_eq_of_mem_set hv with hv | rfl
      · exact h3.1 v hv
      · exact hux
    · refine List.pairwise_iff_getElem.2 fun p q hp hq' hpq => ?_
      have hp' : p < us.length := by simpa using hp
      have hq'' : q < us.length := by simpa using hq'
      simp only [List.getElem_set]
      have h4 := List.pairwise_iff_getElem.1 h3.2 p q hp' hq'' hpq
      by_cases h5 : i.toNat = p
      · rw [if_pos h5, if_neg (by omega)]
        exact (hrx q hq'' (by omega)).symm
      · rw [if_neg h5]
        by_cases h6 : i.toNat = q
        · rw [if_pos h6]; exact hrx p hp' (by omega)
        · rw [if_neg h6]; exact h4
  · rcases hs_grp.1 hk' with hk2 | ⟨v, hv, hk2⟩
    · exact .inl (hs_grp.2 (.inl hk2))
    · rcases List.mem_or_eq_of_mem_set hv with hv | rfl
      · exact .inl (hs_grp.2 (.inr ⟨v, hv, hk2⟩))
      · exact .inr (.inl hk2)
end
end Gk

/- Printed by gen.py: for each Go function a pure function, and that the Go code comes to it. No condition beside the equation that says what the pure function gives. -/



set_option linter.unusedVariables false
set_option linter.unusedSimpArgs false
namespace Gk
open Go Go.Proofs

/-! largesse/mend.Radius -/
noncomputable def mend_Radius (a0m : Int) (a1t : Int) : Option Int :=
(if a0m < a1t then some 0
else
((divI ((wI (a0m - a1t))) 2).bind fun c2 => some c2))
set_option maxRecDepth 100000 in
set_option maxHeartbeats 8000000 in
theorem mend_Radius_calls (a0m : Int) (a1t : Int) (r : Int) (w0 : World) (H : mend_Radius a0m a1t = some r) :
    Calls Try.prog 23 [(i64 a0m), (i64 a1t)].toArray w0 (fun e w' => e = .returned (i64 r) ∧ Ext w0 w') := by
  have hE : Ext w0 w0 := Ext.refl w0
  unfold mend_Radius at H
  refine calls_W (n := 12) Try.func23 rfl rfl rfl ?_
  refine W_seq ?_
  refine W_reg (by kernel_rfl) ?_
  refine wla rfl rfl (q_assign (v := (i64 0)) rfl rfl) ?_
  refine wl_nil ?_
  refine W_th ?_
  refine W_seq ?_
  refine W_seq ?_
  refine W_reg (by kernel_rfl) ?_
  refine wla rfl rfl (q_move (v := (i64 a0m)) rfl rfl) ?_
  refine wla rfl rfl (q_move (v := (i64 a1t)) rfl rfl) ?_
  refine wla rfl rfl (q_ltI rfl rfl rfl) ?_
  refine wl_nil ?_
  refine W_th ?_
  refine W_cond _ rfl rfl (fun hb1 => ?_) (fun hb1 => ?_)
  · replace H := (if_pos (of_decide_eq_true hb1)).symm.trans H
    refine W_seq ?_
    refine W_reg (by kernel_rfl) ?_
    refine wla rfl rfl (q_assign (v := (i64 0)) rfl rfl) ?_
    refine wl_nil ?_
    refine W_th ?_
    refine W_ret ?_
    refine th_r ?_
    obtain rfl := Option.some.inj H
    refine rt1 (i64 0) rfl rfl rfl rfl ?_
    exact ⟨rfl, hE⟩
  · replace H := (if_neg (of_decide_eq_false hb1)).symm.trans H
    refine W_skip ?_
    refine W_th ?_
    refine W_seq ?_
    refine W_reg (by kernel_rfl) ?_
    refine wla rfl rfl (q_move (v := (i64 a0m)) rfl rfl) ?_
    refine wla rfl rfl (q_move (v := (i64 a1t)) rfl rfl) ?_
    refine wla rfl rfl (q_subI rfl rfl rfl) ?_
    obtain ⟨c2, hc2, H⟩ := Option.bind_eq_some_iff.1 H
    refine wla rfl rfl (q_divI rfl rfl rfl hc2) ?_
    refine wla rfl rfl (q_assign (v := (i64 c2)) rfl rfl) ?_
    refine wl_nil ?_
    refine W_th ?_
    refine W_ret ?_
    obtain rfl := Option.some.inj H
    refine rt1 (i64 c2) rfl rfl rfl rfl ?_
    exact ⟨rfl, hE⟩

/-! largesse/mend.check -/
noncomputable def mend_check (a0f : Bool) (a1t : Int) (a2xs : List UInt8) (a3rows : Int) (a4e : Int) : Option Int :=
(if (!a0f) = true then some 1
else
(if (a2xs.length : Int) = a3rows then
(if a1t < 1 then some 2
else
(if 255 < a1t then some 2
else
(if a4e < 0 then some 2
else
(if (a2xs.length : Int) < a1t then some 5
else
((poly_Weights a0f a2xs (0 : UInt8)).bind fun r7 => some r7.2)))))
else some 1))
set_option maxRecDepth 100000 in
set_option maxHeartbeats 8000000 in
theorem mend_check_calls (a0f : Bool) (a1t : Int) (a2xs : List UInt8) (a3rows : Int) (a4e : Int) (p0 : Value) (p2 : Value) (r : Int) (w0 : World) (hp0 : Fd w0 [] p0 a0f) (hp2 : By w0 [] p2 a2xs) (H : mend_check a0f a1t a2xs a3rows a4e = some r) :
    Calls Try.prog 35 [p0, (i64 a1t), p2, (i64 a3rows), (i64 a4e)].toArray w0 (fun e w' => e = .returned (i64 r) ∧ Ext w0 w') := by
  have hE : Ext w0 w0 := Ext.refl w0
  unfold mend_check at H
  refine calls_W (n := 45) Try.func35 rfl rfl rfl ?_
  refine W_seq ?_
  refine W_reg (by kernel_rfl) ?_
  refine wla rfl rfl (q_assign (v := (i64 0)) rfl rfl) ?_
  refine wl_nil ?_
  refine W_th ?_
  refine W_seq ?_
  refine W_block ?_
  refine W_seq ?_
  refine W_reg (by kernel_rfl) ?_
  refine wla rfl rfl (q_move (v := p0) rfl rfl) ?_
  refine wla rfl rfl (q_eqF rfl rfl rfl rfl (hp0.lift (Lift.ext hE _))) ?_
  refine wlb rfl rfl (q_move (v := (.bool ((!a0f)))) rfl rfl) (fun hb1 => ?_) (fun hb1 => ?_)
  · replace H := (if_pos hb1).symm.trans H
    refine wlk rfl rfl ?_
    refine wlk rfl rfl ?_
    refine wlk rfl rfl ?_
    refine wlk rfl rfl ?_
    refine wla rfl rfl (q_pick_t (v := (.bool true)) rfl rfl rfl) ?_
    refine wla rfl rfl (q_assign (v := (.bool true)) rfl rfl) ?_
    refine wl_nil ?_
    refine W_th ?_
    refine W_cond true rfl rfl (fun _ => ?_) (fun hb => by cases hb)
    refine W_seq ?_
    refine W_reg (by kernel_rfl) ?_
    refine wla rfl rfl (q_assign (v := (i64 1)) rfl rfl) ?_
    refine wl_nil ?_
    refine W_th ?_
    refine W_ret ?_
    refine bk_r ?_
    refine th_r ?_
    obtain rfl := Option.some.inj H
    refine rt1 (i64 1) rfl rfl rfl rfl ?_
    exact ⟨rfl, hE⟩
  · replace H := (if_neg (ne_true_of_eq_false hb1)).symm.trans H
    refine wla rfl rfl (q_move (v := p2) rfl rfl) ?_
    refine wla rfl rfl (q_len rfl T22.sl rfl (hp2.lift (Lift.ext hE _))) ?_
    refine wla rfl rfl (q_move (v := (i64 a3rows)) rfl rfl) ?_
    refine wla rfl rfl (q_neI rfl rfl rfl) ?_
    refine wla rfl rfl (q_pick_f (v := (.bool ((!decide ((a2xs.length : Int) = a3rows))))) rfl rfl rfl) ?_
    refine wla rfl rfl (q_assign (v := (.bool ((!decide ((a2xs.length : Int) = a3rows))))) rfl rfl) ?_
    refine wl_nil ?_
    refine W_th ?_
    refine W_cond _ rfl rfl (fun hb2 => ?_) (fun hb2 => ?_)
    · replace H := (if_neg (ndec_t hb2)).symm.trans H
      refine W_seq ?_
      refine W_reg (by kernel_rfl) ?_
      refine wla rfl rfl (q_assign (v := (i64 1)) rfl rfl) ?_
      refine wl_nil ?_
      refine W_th ?_
      refine W_ret ?_
      refine bk_r ?_
      refine th_r ?_
      obtain rfl := Option.some.inj H
      refine rt1 (i64 1) rfl rfl rfl rfl ?_
      exact ⟨rfl, hE⟩
    · replace H := (if_pos (ndec_f hb2)).symm.trans H
      refine W_seq ?_
      refine W_reg (by kernel_rfl) ?_
      refine wla rfl rfl (q_move (v := (i64 a1t)) rfl rfl) ?_
      refine wla rfl rfl (q_ltI rfl rfl rfl) ?_
      refine wlb rfl rfl (q_move (v := (.bool ((decide (a1t < 1))))) rfl rfl) (fun hb3 => ?_) (fun hb3 => ?_)
      · replace H := (if_pos (of_decide_eq_true hb3)).symm.trans H
        refine wlk rfl rfl ?_
        refine wlk rfl rfl ?_
        refine wla rfl rfl (q_pick_t (v := (.bool true)) rfl rfl rfl) ?_
        refine wla rfl rfl (q_move (v := (.bool true)) rfl rfl) ?_
        refine wlk rfl rfl ?_
        refine wlk rfl rfl ?_
        refine wla rfl rfl (q_pick_t (v := (.bool true)) rfl rfl rfl) ?_
        refine wla rfl rfl (q_assign (v := (.bool true)) rfl rfl) ?_
        refine wl_nil ?_
        refine W_th ?_
        refine W_cond true rfl rfl (fun _ => ?_) (fun hb => by cases hb)
        refine W_seq ?_
        refine W_reg (by kernel_rfl) ?_
        refine wla rfl rfl (q_assign (v := (i64 2)) rfl rfl) ?_
        refine wl_nil ?_
        refine W_th ?_
        refine W_ret ?_
        refine bk_r ?_
        refine th_r ?_
        obtain rfl := Option.some.inj H
        refine rt1 (i64 2) rfl rfl rfl rfl ?_
        exact ⟨rfl, hE⟩
      · replace H := (if_neg (of_decide_eq_false hb3)).symm.trans H
        refine wla rfl rfl (q_move (v := (i64 a1t)) rfl rfl) ?_
        refine wla rfl rfl (q_gtI rfl rfl rfl) ?_
        refine wla rfl rfl (q_pick_f (v := (.bool ((decide (255 < a1t))))) rfl rfl rfl) ?_
        refine wlb rfl rfl (q_move (v := (.bool ((decide (255 < a1t))))) rfl rfl) (fun hb4 => ?_) (fun hb4 => ?_)
        · replace H := (if_pos (of_decide_eq_true hb4)).symm.trans H
          refine wlk rfl rfl ?_
          refine wlk rfl rfl ?_
          refine wla rfl rfl (q_pick_t (v := (.bool true)) rfl rfl rfl) ?_
          refine wla rfl rfl (q_assign (v := (.bool true)) rfl rfl) ?_
          refine wl_nil ?_
          refine W_th ?_
          refine W_cond true rfl rfl (fun _ => ?_) (fun hb => by cases hb)
          refine W_seq ?_
          refine W_reg (by kernel_rfl) ?_
          refine wla rfl rfl (q_assign (v := (i64 2)) rfl rfl) ?_
          refine wl_nil ?_
          refine W_th ?_
          refine W_ret ?_
          refine bk_r ?_
          refine th_r ?_
          obtain rfl := Option.some.inj H
          refine rt1 (i64 2) rfl rfl rfl rfl ?_
          exact ⟨rfl, hE⟩
        · replace H := (if_neg (of_decide_eq_false hb4)).symm.trans H
          refine wla rfl rfl (q_move (v := (i64 a4e)) rfl rfl) ?_
          refine wla rfl rfl (q_ltI rfl rfl rfl) ?_
          refine wla rfl rfl (q_pick_f (v := (.bool ((decide (a4e < 0))))) rfl rfl rfl) ?_
          refine wla rfl rfl (q_assign (v := (.bool ((decide (a4e < 0))))) rfl rfl) ?_
          refine wl_nil ?_
          refine W_th ?_
          refine W_cond _ rfl rfl (fun hb5 => ?_) (fun hb5 => ?_)
          · replace H := (if_pos (of_decide_eq_true hb5)).symm.trans H
            refine W_seq ?_
            refine W_reg (by kernel_rfl) ?_
            refine wla rfl rfl (q_assign (v := (i64 2)) rfl rfl) ?_
            refine wl_nil ?_
            refine W_th ?_
            refine W_ret ?_
            refine bk_r ?_
            refine th_r ?_
            obtain rfl := Option.some.inj H
            refine rt1 (i64 2) rfl rfl rfl rfl ?_
            exact ⟨rfl, hE⟩
          · replace H := (if_neg (of_decide_eq_false hb5)).symm.trans H
            refine W_seq ?_
            refine W_reg (by kernel_rfl) ?_
            refine wla rfl rfl (q_move (v := p2) rfl rfl) ?_
            refine wla rfl rfl (q_len rfl T22.sl rfl (hp2.lift (Lift.ext hE _))) ?_
            refine wla rfl rfl (q_move (v := (i64 a1t)) rfl rfl) ?_
            refine wla rfl rfl (q_ltI rfl rfl rfl) ?_
            refine wla rfl rfl (q_assign (v := (.bool ((decide ((a2xs.length : Int) < a1t))))) rfl rfl) ?_
            refine wl_nil ?_
            refine W_th ?_
            refine W_cond _ rfl rfl (fun hb6 => ?_) (fun hb6 => ?_)
            · replace H := (if_pos (of_decide_eq_true hb6)).symm.trans H
              refine W_seq ?_
              refine W_reg (by kernel_rfl) ?_
              refine wla rfl rfl (q_assign (v := (i64 5)) rfl rfl) ?_
              refine wl_nil ?_
              refine W_th ?_
              refine W_ret ?_
              refine bk_r ?_
              refine th_r ?_
              obtain rfl := Option.some.inj H
              refine rt1 (i64 5) rfl rfl rfl rfl ?_
              exact ⟨rfl, hE⟩
            · replace H := (if_neg (of_decide_eq_false hb6)).symm.trans H
              refine W_skip ?_
              refine bk_n ?_
              refine W_th ?_
              refine W_seq ?_
              refine W_reg (by kernel_rfl) ?_
              refine wla rfl rfl (q_move (v := p0) rfl rfl) ?_
              refine wla rfl rfl (q_move (v := p2) rfl rfl) ?_
              obtain ⟨r7, hr7, H⟩ := Option.bind_eq_some_iff.1 H
              refine wls rfl rfl (stp_call (vs := [p0, p2, (u8 0)]) Try.func49 rfl rfl rfl (ar3 rfl rfl (cst8 (0 : UInt8) rfl)) (poly_Weights_calls a0f a2xs (0 : UInt8) p0 p2 r7 _ (hp0.lift (Lift.ext hE _)) (hp2.lift (Lift.ext hE _)) hr7) ?_)
              rintro _ w7 ⟨v7_0, rfl, x7, n7_0, o7_0⟩
              refine ⟨_, rfl, ?_⟩
              have i7_0 : By w7 [] v7_0 r7.1 := OwK.slk (Sc.stab _) _ (OwK.scal o7_0 (v7_0 :: [])) (fun k hk => (Old.nil _) k (n7_0 k hk)) (fun _ h => h.2)
              have e8 := hE.trans x7
              refine wla rfl rfl (q_move (v := (.tuple #[v7_0, (i64 r7.2)])) rfl rfl) ?_
              refine wla rfl rfl (q_extract rfl rfl rfl) ?_
              refine wla rfl rfl (q_extract rfl rfl rfl) ?_
              refine wla rfl rfl (q_assign (v := v7_0) rfl rfl) ?_
              refine wla rfl rfl (q_assign (v := (i64 r7.2)) rfl rfl) ?_
              refine wl_nil ?_
              refine W_th ?_
              refine W_seq ?_
              refine W_reg (by kernel_rfl) ?_
              refine wla rfl rfl (q_move (v := (i64 r7.2)) rfl rfl) ?_
              refine wla rfl rfl (q_assign (v := (i64 r7.2)) rfl rfl) ?_
              refine wl_nil ?_
              refine W_th ?_
              refine W_ret ?_
              obtain rfl := Option.some.inj H
              refine rt1 (i64 r7.2) rfl rfl rfl rfl ?_
              exact ⟨rfl, e8⟩

/-! largesse/mend.gao -/
noncomputable def mend_gao (a0f : Bool) (a1t : Int) (a2xs : List UInt8) (a3ys : List UInt8) : Option (List UInt8 × Bool) :=
((poly_Vanish a0f a2xs).bind fun r1 =>
((poly_Through a0f a2xs a3ys).bind fun r4 =>
((iterC (fun s10 : List UInt8 × List UInt8 × List UInt8 × List UInt8 =>
((poly_Degree s10.2.1).bind fun r12 =>
(if (wI ((a2xs.length : Int) + a1t)) ≤ (wI (2 * r12)) then
((poly_DivMod a0f s10.1 s10.2.1).bind fun r15 =>
(if r15.2.2 = 0 then
((poly_Mul a0f r15.1 s10.2.2.2).bind fun r20 =>
((poly_Add s10.2.2.1 r20.1).bind fun r23 => some (.inl (s10.2.1, r15.2.1, s10.2.2.2, r23))))
else some (.inr (.inr (([] : List UInt8), false)))))
else some (.inr (.inl (s10.2.1, s10.2.2.2)))))) (r1.1, r4.1, ([] : List UInt8), ([(1 : UInt8)] : List UInt8))).bind (Sum.elim (fun y10 =>
((poly_DivMod a0f y10.1 y10.2).bind fun r28 =>
(if r28.2.2 = 0 then
(if (r28.2.1.length : Int) = 0 then
((poly_Degree r28.1).bind fun r34 => some (r28.1, (decide (r34 < a1t))))
else some (r28.1, false))
else some (r28.1, false)))) (fun q10 => some q10)))))
set_option maxRecDepth 100000 in
set_option maxHeartbeats 8000000 in
theorem mend_gao_calls (a0f : Bool) (a1t : Int) (a2xs : List UInt8) (a3ys : List UInt8) (p0 : Value) (p2 : Value) (p3 : Value) (r : List UInt8 × Bool) (w0 : World) (hp0 : Fd w0 [] p0 a0f) (hp2 : By w0 [] p2 a2xs) (hp3 : By w0 [] p3 a3ys) (H : mend_gao a0f a1t a2xs a3ys = some r) :
    Calls Try.prog 72 [p0, (i64 a1t), p2, p3].toArray w0 (fun e w' => ∃ u0 : Value, e = .returned (.tuple #[u0, (.bool r.2)]) ∧ Ext w0 w' ∧ Nw w0 u0 ∧ By w' [] u0 r.1) := by
  have hE : Ext w0 w0 := Ext.refl w0
  unfold mend_gao at H
  refine calls_W (n := 91) Try.func72 rfl rfl rfl ?_
  refine W_seq ?_
  refine W_reg (by kernel_rfl) ?_
  refine wla rfl rfl (q_assign (v := (.slice none 0 0)) rfl rfl) ?_
  refine wla rfl rfl (q_assign (v := (.bool false)) rfl rfl) ?_
  refine wl_nil ?_
  refine W_th ?_
  refine W_seq ?_
  refine W_reg (by kernel_rfl) ?_
  refine wla rfl rfl (q_move (v := p0) rfl rfl) ?_
  refine wla rfl rfl (q_move (v := p2) rfl rfl) ?_
  obtain ⟨r1, hr1, H⟩ := Option.bind_eq_some_iff.1 H
  refine wls rfl rfl (stp_call (vs := [p0, p2]) Try.func83 rfl rfl rfl (ar2 rfl rfl) (poly_Vanish_calls a0f a2xs p0 p2 r1 _ (hp0.lift (Lift.ext hE _)) (hp2.lift (Lift.ext hE _)) hr1) ?_)
  rintro _ w1 ⟨v1_0, rfl, x1, n1_0, o1_0⟩
  refine ⟨_, rfl, ?_⟩
  have n2 := Nw.ext hE n1_0
  have i1_0 : By w1 [] v1_0 r1.1 := OwK.slk (Sc.stab _) _ (OwK.scal o1_0 (v1_0 :: [])) (fun k hk => (Old.nil _) k (n1_0 k hk)) (fun _ h => h.2)
  have e3 := hE.trans x1
  refine wla rfl rfl (q_move (v := (.tuple #[v1_0, (i64 r1.2)])) rfl rfl) ?_
  refine wla rfl rfl (q_extract rfl rfl rfl) ?_
  refine wla rfl rfl (q_extract rfl rfl rfl) ?_
  refine wla rfl rfl (q_assign (v := v1_0) rfl rfl) ?_
  refine wla rfl rfl (q_assign (v := (i64 r1.2)) rfl rfl) ?_
  refine wl_nil ?_
  refine W_th ?_
  refine W_seq ?_
  refine W_reg (by kernel_rfl) ?_
  refine wla rfl rfl (q_move (v := p0) rfl rfl) ?_
  refine wla rfl rfl (q_move (v := p2) rfl rfl) ?_
  refine wla rfl rfl (q_move (v := p3) rfl rfl) ?_
  obtain ⟨r4, hr4, H⟩ := Option.bind_eq_some_iff.1 H
  refine wls rfl rfl (stp_call (vs := [p0, p2, p3]) Try.func84 rfl rfl rfl (ar3 rfl rfl rfl) (poly_Through_calls a0f a2xs a3ys p0 p2 p3 r4 _ (hp0.lift (Lift.ext e3 _)) (hp2.lift (Lift.ext e3 _)) (hp3.lift (Lift.ext e3 _)) hr4) ?_)
  rintro _ w4 ⟨v4_0, rfl, x4, n4_0, o4_0⟩
  refine ⟨_, rfl, ?_⟩
  have n5 := Nw.ext e3 n4_0
  have i4_0 : By w4 [] v4_0 r4.1 := OwK.slk (Sc.stab _) _ (OwK.scal o4_0 (v4_0 :: [])) (fun k hk => (Old.nil _) k (n4_0 k hk)) (fun _ h => h.2)
  replace i1_0 := i1_0.lift (Lift.ext x4 _)
  have e6 := e3.trans x4
  refine wla rfl rfl (q_move (v := (.tuple #[v4_0, (i64 r4.2)])) rfl rfl) ?_
  refine wla rfl rfl (q_extract rfl rfl rfl) ?_
  refine wla rfl rfl (q_extract rfl rfl rfl) ?_
  refine wla rfl rfl (q_assign (v := v4_0) rfl rfl) ?_
  refine wla rfl rfl (q_assign (v := (i64 r4.2)) rfl rfl) ?_
  refine wl_nil ?_
  refine W_th ?_
  refine W_seq ?_
  refine W_reg (by kernel_rfl) ?_
  refine wls rfl rfl (stp_lit (L := []) (R := (Sc u8)) [(u8 1)] ([(1 : UInt8)] : List UInt8) rfl T22 rfl (by exact ⟨rfl, (cst8 (1 : UInt8) rfl), trivial⟩) rfl (litC u8 (oneC_u8) (us := [(u8 1)]) (l := ([(1 : UInt8)] : List UInt8)) rfl) rfl (litS u8 (us := [(u8 1)]) (l := ([(1 : UInt8)] : List UInt8)) rfl) ?_)
  intro v7 w7 o7 n7 g7 l7
  have x7 := grown_ext g7
  have i7 : By w7 [] v7 (([(1 : UInt8)] : List UInt8)) := OwK.slk (Sc.stab _) _ o7 (fun k hk => (Old.nil _) k (n7 k hk)) (fun _ h => h.2)
  have n8 := Nw.ext e6 n7
  replace i1_0 := i1_0.lift (Lift.ext x7 _)
  replace i4_0 := i4_0.lift (Lift.ext x7 _)
  have e9 := e6.trans x7
  refine wla rfl rfl (q_assign (v := (.slice none 0 0)) rfl rfl) ?_
  refine wla rfl rfl (q_assign (v := v7) rfl rfl) ?_
  refine wl_nil ?_
  refine W_th ?_
  refine W_seq ?_
  obtain ⟨x10, G10, H⟩ := Option.bind_eq_some_iff.1 H
  refine W_mid (fun f w => ∃ y10, x10 = .inl y10 ∧ ∃ v12_36 : Value, ∃ v15_36 : Value, f 0 = p0 ∧ f 1 = (i64 a1t) ∧ f 12 = v12_36 ∧ f 15 = v15_36 ∧ f 91 = undef ∧ Ext w0 w ∧ By w [] v12_36 y10.1 ∧ By w [] v15_36 y10.2) ?_ ?_
  · refine W_block ?_
    refine W_loop (fun s10 f w => ∃ v10_26 : Value, ∃ v12_26 : Value, ∃ v14_26 : Value, ∃ v15_26 : Value, f 0 = p0 ∧ f 1 = (i64 a1t) ∧ f 2 = p2 ∧ f 10 = v10_26 ∧ f 12 = v12_26 ∧ f 14 = v14_26 ∧ f 15 = v15_26 ∧ f 91 = undef ∧ Ext w0 w ∧ By w [] v10_26 s10.1 ∧ By w [] v12_26 s10.2.1 ∧ By w [] v14_26 s10.2.2.1 ∧ By w [] v15_26 s10.2.2.2) G10 ?_ ?_
    · exact ⟨v1_0, v4_0, (.slice none 0 0), v7, rfl, rfl, rfl, rfl, rfl, rfl, rfl, rfl, e9, i1_0, i4_0, (SlK.nil _ _ _), i7⟩
    · rintro s10 _ _ w11 ⟨v10_11, v12_11, v14_11, v15_11, s0_11, s1_11, s2_11, s10_11, s12_11, s14_11, s15_11, s91_11, hE11, i0_11, i1_11, i2_11, i3_11⟩ H10 hr10
      refine W_seq ?_
      refine W_seq ?_
      refine W_reg (by kernel_rfl) ?_
      refine wla rfl rfl (q_move (v := v12_11) rfl s12_11) ?_
      obtain ⟨r12, hr12, H10⟩ := Option.bind_eq_some_iff.1 H10
      refine wls rfl rfl (stp_call (vs := [v12_11]) Try.func40 rfl rfl rfl (ar1 rfl) (poly_Degree_calls s10.2.1 v12_11 r12 _ (i1_11.lift (Lift.sub (fun _ _ => trivial))) hr12) ?_)
      rintro _ w12 ⟨rfl, x12⟩
      refine ⟨_, rfl, ?_⟩
      replace i0_11 := i0_11.lift (Lift.ext x12 _)
      replace i1_11 := i1_11.lift (Lift.ext x12 _)
      replace i2_11 := i2_11.lift (Lift.ext x12 _)
      replace i3_11 := i3_11.lift (Lift.ext x12 _)
      have e13 := hE11.trans x12
      refine wla rfl rfl (q_mulI rfl rfl rfl) ?_
      refine wla rfl rfl (q_move (v := p2) rfl s2_11) ?_
      refine wla rfl rfl (q_len rfl T22.sl rfl (hp2.lift (Lift.ext e13 _))) ?_
      refine wla rfl rfl (q_move (v := (i64 a1t)) rfl s1_11) ?_
      refine wla rfl rfl (q_addI rfl rfl rfl) ?_
      refine wla rfl rfl (q_geI rfl rfl rfl) ?_
      refine wl_nil ?_
      refine W_th ?_
      refine W_cond _ rfl rfl (fun hb14 => ?_) (fun hb14 => ?_)
      · replace H10 := (if_pos (of_decide_eq_true hb14)).symm.trans H10
        refine W_skip ?_
        refine W_th ?_
        refine W_block ?_
        refine W_seq ?_
        refine W_reg (by kernel_rfl) ?_
        refine wla rfl rfl (q_move (v := p0) rfl s0_11) ?_
        refine wla rfl rfl (q_move (v := v10_11) rfl s10_11) ?_
        refine wla rfl rfl (q_move (v := v12_11) rfl s12_11) ?_
        obtain ⟨r15, hr15, H10⟩ := Option.bind_eq_some_iff.1 H10
        refine wls rfl rfl (stp_call (vs := [p0, v10_11, v12_11]) Try.func85 rfl rfl rfl (ar3 rfl rfl rfl) (poly_DivMod_calls a0f s10.1 s10.2.1 p0 v10_11 v12_11 r15 _ (hp0.lift (Lift.ext e13 _)) (i0_11.lift (Lift.sub (fun _ _ => trivial))) (i1_11.lift (Lift.sub (fun _ _ => trivial))) hr15) ?_)
        rintro _ w15 ⟨v15_0, v15_1, rfl, x15, n15_0, o15_0, n15_1, o15_1⟩
        refine ⟨_, rfl, ?_⟩
        have n16 := Nw.ext e13 n15_0
        have i15_0 : By w15 [] v15_0 r15.1 := OwK.slk (Sc.stab _) _ (OwK.scal o15_0 (v15_0 :: [])) (fun k hk => (Old.nil _) k (n15_0 k hk)) (fun _ h => h.2)
        have n17 := Nw.ext e13 n15_1
        have i15_1 : By w15 [] v15_1 r15.2.1 := OwK.slk (Sc.stab _) _ (OwK.scal o15_1 (v15_1 :: [])) (fun k hk => (Old.nil _) k (n15_1 k hk)) (fun _ h => h.2)
        replace i0_11 := i0_11.lift (Lift.ext x15 _)
        replace i1_11 := i1_11.lift (Lift.ext x15 _)
        replace i2_11 := i2_11.lift (Lift.ext x15 _)
        replace i3_11 := i3_11.lift (Lift.ext x15 _)
        have e18 := e13.trans x15
        refine wla rfl rfl (q_move (v := (.tuple #[v15_0, v15_1, (i64 r15.2.2)])) rfl rfl) ?_
        refine wla rfl rfl (q_extract rfl rfl rfl) ?_
        refine wla rfl rfl (q_extract rfl rfl rfl) ?_
        refine wla rfl rfl (q_extract rfl rfl rfl) ?_
        refine wla rfl rfl (q_assign (v := v15_0) rfl rfl) ?_
        refine wla rfl rfl (q_assign (v := v15_1) rfl rfl) ?_
        refine wla rfl rfl (q_assign (v := (i64 r15.2.2)) rfl rfl) ?_
        refine wl_nil ?_
        refine W_th ?_
        refine W_seq ?_
        refine W_seq ?_
        refine W_reg (by kernel_rfl) ?_
        refine wla rfl rfl (q_move (v := (i64 r15.2.2)) rfl rfl) ?_
        refine wla rfl rfl (q_neI rfl rfl rfl) ?_
        refine wl_nil ?_
        refine W_th ?_
        refine W_cond _ rfl rfl (fun hb19 => ?_) (fun hb19 => ?_)
        · replace H10 := (if_neg (ndec_t hb19)).symm.trans H10
          refine W_seq ?_
          refine W_reg (by kernel_rfl) ?_
          refine wla rfl rfl (q_assign (v := (.slice none 0 0)) rfl rfl) ?_
          refine wla rfl rfl (q_assign (v := (.bool false)) rfl rfl) ?_
          refine wl_nil ?_
          refine W_th ?_
          refine W_ret ?_
          refine th_r ?_
          refine bk_r ?_
          obtain rfl := Option.some.inj H10
          obtain rfl := hr10 _ rfl
          simp only [Sum.elim_inr] at H
          refine th_r ?_
          refine bk_r ?_
          refine th_r ?_
          refine th_r ?_
          obtain rfl := Option.some.inj H
          refine rt2 (.slice none 0 0) (.bool false) rfl rfl rfl rfl rfl s91_11 ?_
          exact ⟨(.slice none 0 0), rfl, e18, Nw.nil _, (SlK.nil _ _ _)⟩
        · replace H10 := (if_pos (ndec_f hb19)).symm.trans H10
          refine W_skip ?_
          refine W_th ?_
          refine W_seq ?_
          refine W_reg (by kernel_rfl) ?_
          refine wla rfl rfl (q_move (v := p0) rfl s0_11) ?_
          refine wla rfl rfl (q_move (v := v15_0) rfl rfl) ?_
          refine wla rfl rfl (q_move (v := v15_11) rfl s15_11) ?_
          obtain ⟨r20, hr20, H10⟩ := Option.bind_eq_some_iff.1 H10
          refine wls rfl rfl (stp_call (vs := [p0, v15_0, v15_11]) Try.func69 rfl rfl rfl (ar3 rfl rfl rfl) (poly_Mul_calls a0f r15.1 s10.2.2.2 p0 v15_0 v15_11 r20 _ (hp0.lift (Lift.ext e18 _)) (i15_0.lift (Lift.sub (fun _ _ => trivial))) (i3_11.lift (Lift.sub (fun _ _ => trivial))) hr20) ?_)
          rintro _ w20 ⟨v20_0, rfl, x20, n20_0, o20_0⟩
          refine ⟨_, rfl, ?_⟩
          have n21 := Nw.ext e18 n20_0
          have i20_0 : By w20 [] v20_0 r20.1 := OwK.slk (Sc.stab _) _ (OwK.scal o20_0 (v20_0 :: [])) (fun k hk => (Old.nil _) k (n20_0 k hk)) (fun _ h => h.2)
          replace i0_11 := i0_11.lift (Lift.ext x20 _)
          replace i1_11 := i1_11.lift (Lift.ext x20 _)
          replace i2_11 := i2_11.lift (Lift.ext x20 _)
          replace i3_11 := i3_11.lift (Lift.ext x20 _)
          replace i15_0 := i15_0.lift (Lift.ext x20 _)
          replace i15_1 := i15_1.lift (Lift.ext x20 _)
          have e22 := e18.trans x20
          refine wla rfl rfl (q_move (v := (.tuple #[v20_0, (i64 r20.2)])) rfl rfl) ?_
          refine wla rfl rfl (q_extract rfl rfl rfl) ?_
          refine wla rfl rfl (q_extract rfl rfl rfl) ?_
          refine wla rfl rfl (q_assign (v := v20_0) rfl rfl) ?_
          refine wla rfl rfl (q_assign (v := (i64 r20.2)) rfl rfl) ?_
          refine wl_nil ?_
          refine W_th ?_
          refine W_reg (by kernel_rfl) ?_
          refine wla rfl rfl (q_move (v := v12_11) rfl s12_11) ?_
          refine wla rfl rfl (q_move (v := v15_1) rfl rfl) ?_
          refine wla rfl rfl (q_move (v := v15_11) rfl s15_11) ?_
          refine wla rfl rfl (q_move (v := v14_11) rfl s14_11) ?_
          refine wla rfl rfl (q_move (v := v20_0) rfl rfl) ?_
          obtain ⟨r23, hr23, H10⟩ := Option.bind_eq_some_iff.1 H10
          refine wls rfl rfl (stp_call (vs := [v14_11, v20_0]) Try.func63 rfl rfl rfl (ar2 rfl rfl) (poly_Add_calls s10.2.2.1 r20.1 v14_11 v20_0 r23 _ (i2_11.lift (Lift.sub (fun _ _ => trivial))) (i20_0.lift (Lift.sub (fun _ _ => trivial))) hr23) ?_)
          rintro _ w23 ⟨v23, rfl, x23, n23_0, o23_0⟩
          refine ⟨_, rfl, ?_⟩
          have n24 := Nw.ext e22 n23_0
          have i23_0 : By w23 [] v23 r23 := OwK.slk (Sc.stab _) _ (OwK.scal o23_0 (v23 :: [])) (fun k hk => (Old.nil _) k (n23_0 k hk)) (fun _ h => h.2)
          replace i0_11 := i0_11.lift (Lift.ext x23 _)
          replace i1_11 := i1_11.lift (Lift.ext x23 _)
          replace i2_11 := i2_11.lift (Lift.ext x23 _)
          replace i3_11 := i3_11.lift (Lift.ext x23 _)
          replace i15_0 := i15_0.lift (Lift.ext x23 _)
          replace i15_1 := i15_1.lift (Lift.ext x23 _)
          replace i20_0 := i20_0.lift (Lift.ext x23 _)
          have e25 := e22.trans x23
          refine wla rfl rfl (q_assign (v := v12_11) rfl rfl) ?_
          refine wla rfl rfl (q_assign (v := v15_1) rfl rfl) ?_
          refine wla rfl rfl (q_assign (v := v15_11) rfl rfl) ?_
          refine wla rfl rfl (q_assign (v := v23) rfl rfl) ?_
          refine wl_nil ?_
          refine bk_n ?_
          obtain rfl := Option.some.inj H10
          exact ⟨_, rfl, v12_11, v15_1, v15_11, v23, s0_11, s1_11, s2_11, rfl, rfl, rfl, rfl, s91_11, e25, i1_11, i15_1, i3_11, i23_0⟩
      · replace H10 := (if_neg (of_decide_eq_false hb14)).symm.trans H10
        refine W_exit ?_
        refine th_x ?_
        obtain rfl := Option.some.inj H10
        obtain rfl := hr10 _ rfl
        refine th_x ?_
        refine bk_x ?_
        exact ⟨_, rfl, v12_11, v15_11, s0_11, s1_11, s12_11, s15_11, s91_11, e13, i1_11, i3_11⟩
  · rintro _ w27 ⟨y10, rfl, v12_27, v15_27, s0_27, s1_27, s12_27, s15_27, s91_27, hE27, i0_27, i1_27⟩
    simp only [Sum.elim_inl] at H
    refine W_th ?_
    refine W_seq ?_
    refine W_reg (by kernel_rfl) ?_
    refine wla rfl rfl (q_move (v := p0) rfl s0_27) ?_
    refine wla rfl rfl (q_move (v := v12_27) rfl s12_27) ?_
    refine wla rfl rfl (q_move (v := v15_27) rfl s15_27) ?_
    obtain ⟨r28, hr28, H⟩ := Option.bind_eq_some_iff.1 H
    refine wls rfl rfl (stp_call (vs := [p0, v12_27, v15_27]) Try.func85 rfl rfl rfl (ar3 rfl rfl rfl) (poly_DivMod_calls a0f y10.1 y10.2 p0 v12_27 v15_27 r28 _ (hp0.lift (Lift.ext hE27 _)) (i0_27.lift (Lift.sub (fun _ _ => trivial))) (i1_27.lift (Lift.sub (fun _ _ => trivial))) hr28) ?_)
    rintro _ w28 ⟨v28_0, v28_1, rfl, x28, n28_0, o28_0, n28_1, o28_1⟩
    refine ⟨_, rfl, ?_⟩
    have n29 := Nw.ext hE27 n28_0
    have i28_0 : By w28 [] v28_0 r28.1 := OwK.slk (Sc.stab _) _ (OwK.scal o28_0 (v28_0 :: [])) (fun k hk => (Old.nil _) k (n28_0 k hk)) (fun _ h => h.2)
    have n30 := Nw.ext hE27 n28_1
    have i28_1 : By w28 [] v28_1 r28.2.1 := OwK.slk (Sc.stab _) _ (OwK.scal o28_1 (v28_1 :: [])) (fun k hk => (Old.nil _) k (n28_1 k hk)) (fun _ h => h.2)
    replace i0_27 := i0_27.lift (Lift.ext x28 _)
    replace i1_27 := i1_27.lift (Lift.ext x28 _)
    have e31 := hE27.trans x28
    refine wla rfl rfl (q_move (v := (.tuple #[v28_0, v28_1, (i64 r28.2.2)])) rfl rfl) ?_
    refine wla rfl rfl (q_extract rfl rfl rfl) ?_
    refine wla rfl rfl (q_extract rfl rfl rfl) ?_
    refine wla rfl rfl (q_extract rfl rfl rfl) ?_
    refine wla rfl rfl (q_assign (v := v28_0) rfl rfl) ?_
    refine wla rfl rfl (q_assign (v := v28_1) rfl rfl) ?_
    refine wla rfl rfl (q_assign (v := (i64 r28.2.2)) rfl rfl) ?_
    refine wl_nil ?_
    refine W_th ?_
    refine W_seq ?_
    refine W_reg (by kernel_rfl) ?_
    refine wla rfl rfl (q_move (v := v28_0) rfl rfl) ?_
    refine wla rfl rfl (q_move (v := (i64 r28.2.2)) rfl rfl) ?_
    refine wla rfl rfl (q_eqI rfl rfl rfl) ?_
    refine wlb rfl rfl (q_move (v := (.bool ((decide (r28.2.2 = 0))))) rfl rfl) (fun hb32 => ?_) (fun hb32 => ?_)
    · replace H := (if_pos (of_decide_eq_true hb32)).symm.trans H
      refine wla rfl rfl (q_move (v := v28_1) rfl rfl) ?_
      refine wla rfl rfl (q_len rfl T22.sl rfl i28_1) ?_
      refine wla rfl rfl (q_eqI rfl rfl rfl) ?_
      refine wla rfl rfl (q_pick_t (v := (.bool ((decide ((r28.2.1.length : Int) = 0))))) rfl rfl rfl) ?_
      refine wlb rfl rfl (q_move (v := (.bool ((decide ((r28.2.1.length : Int) = 0))))) rfl rfl) (fun hb33 => ?_) (fun hb33 => ?_)
      · replace H := (if_pos (of_decide_eq_true hb33)).symm.trans H
        refine wla rfl rfl (q_move (v := v28_0) rfl rfl) ?_
        obtain ⟨r34, hr34, H⟩ := Option.bind_eq_some_iff.1 H
        refine wls rfl rfl (stp_call (vs := [v28_0]) Try.func40 rfl rfl rfl (ar1 rfl) (poly_Degree_calls r28.1 v28_0 r34 _ (i28_0.lift (Lift.sub (fun _ _ => trivial))) hr34) ?_)
        rintro _ w34 ⟨rfl, x34⟩
        refine ⟨_, rfl, ?_⟩
        replace i0_27 := i0_27.lift (Lift.ext x34 _)
        replace i1_27 := i1_27.lift (Lift.ext x34 _)
        replace i28_0 := i28_0.lift (Lift.ext x34 _)
        replace i28_1 := i28_1.lift (Lift.ext x34 _)
        have e35 := e31.trans x34
        refine wla rfl rfl (q_move (v := (i64 a1t)) rfl s1_27) ?_
        refine wla rfl rfl (q_ltI rfl rfl rfl) ?_
        refine wla rfl rfl (q_pick_t (v := (.bool ((decide (r34 < a1t))))) rfl rfl rfl) ?_
        refine wla rfl rfl (q_assign (v := v28_0) rfl rfl) ?_
        refine wla rfl rfl (q_assign (v := (.bool ((decide (r34 < a1t))))) rfl rfl) ?_
        refine wl_nil ?_
        refine W_th ?_
        refine W_ret ?_
        obtain rfl := Option.some.inj H
        refine rt2 v28_0 (.bool ((decide (r34 < a1t)))) rfl rfl rfl rfl rfl s91_27 ?_
        exact ⟨v28_0, rfl, e35, n29, (i28_0.lift (Lift.sub (fun _ _ => trivial)))⟩
      · replace H := (if_neg (of_decide_eq_false hb33)).symm.trans H
        refine wlk rfl rfl ?_
        refine wlk rfl rfl ?_
        refine wlk rfl rfl ?_
        refine wlk rfl rfl ?_
        refine wla rfl rfl (q_pick_f (v := (.bool false)) rfl rfl rfl) ?_
        refine wla rfl rfl (q_assign (v := v28_0) rfl rfl) ?_
        refine wla rfl rfl (q_assign (v := (.bool false)) rfl rfl) ?_
        refine wl_nil ?_
        refine W_th ?_
        refine W_ret ?_
        obtain rfl := Option.some.inj H
        refine rt2 v28_0 (.bool false) rfl rfl rfl rfl rfl s91_27 ?_
        exact ⟨v28_0, rfl, e31, n29, (i28_0.lift (Lift.sub (fun _ _ => trivial)))⟩
    · replace H := (if_neg (of_decide_eq_false hb32)).symm.trans H
      refine wlk rfl rfl ?_
      refine wlk rfl rfl ?_
      refine wlk rfl rfl ?_
      refine wla rfl rfl (q_pick_f (v := (.bool false)) rfl rfl rfl) ?_
      refine wla rfl rfl (q_move (v := (.bool false)) rfl rfl) ?_
      refine wlk rfl rfl ?_
      refine wlk rfl rfl ?_
      refine wlk rfl rfl ?_
      refine wlk rfl rfl ?_
      refine wla rfl rfl (q_pick_f (v := (.bool false)) rfl rfl rfl) ?_
      refine wla rfl rfl (q_assign (v := v28_0) rfl rfl) ?_
      refine wla rfl rfl (q_assign (v := (.bool false)) rfl rfl) ?_
      refine wl_nil ?_
      refine W_th ?_
      refine W_ret ?_
      obtain rfl := Option.some.inj H
      refine rt2 v28_0 (.bool false) rfl rfl rfl rfl rfl s91_27 ?_
      exact ⟨v28_0, rfl, e31, n29, (i28_0.lift (Lift.sub (fun _ _ => trivial)))⟩

/-! largesse/mend.wrong -/
noncomputable def mend_wrong (a0f : Bool) (a1p : List UInt8) (a2xs : List UInt8) (a3ys : List UInt8) : Option Int :=
((iterC (fun s1 : Int × Int =>
(if s1.2 < (a2xs.length : Int) then
((idx a2xs s1.2).bind fun c4 =>
((idx a3ys s1.2).bind fun c7 =>
((poly_Eval a0f a1p c4).bind fun r8 =>
(if r8 = c7 then some (.inl (s1.1, (wI (s1.2 + 1))))
else some (.inl ((wI (s1.1 + 1)), (wI (s1.2 + 1))))))))
else some (.inr s1.1))) (0, 0)).bind fun x1 => some x1)
set_option maxRecDepth 100000 in
set_option maxHeartbeats 8000000 in
theorem mend_wrong_calls (a0f : Bool) (a1p : List UInt8) (a2xs : List UInt8) (a3ys : List UInt8) (p0 : Value) (p1 : Value) (p2 : Value) (p3 : Value) (r : Int) (w0 : World) (hp0 : Fd w0 [] p0 a0f) (hp1 : By w0 [] p1 a1p) (hp2 : By w0 [] p2 a2xs) (hp3 : By w0 [] p3 a3ys) (H : mend_wrong a0f a1p a2xs a3ys = some r) :
    Calls Try.prog 73 [p0, p1, p2, p3].toArray w0 (fun e w' => e = .returned (i64 r) ∧ Ext w0 w') := by
  have hE : Ext w0 w0 := Ext.refl w0
  unfold mend_wrong at H
  refine calls_W (n := 32) Try.func73 rfl rfl rfl ?_
  refine W_seq ?_
  refine W_reg (by kernel_rfl) ?_
  refine wla rfl rfl (q_assign (v := (i64 0)) rfl rfl) ?_
  refine wl_nil ?_
  refine W_th ?_
  refine W_seq ?_
  refine W_reg (by kernel_rfl) ?_
  refine wla rfl rfl (q_assign (v := (i64 0)) rfl rfl) ?_
  refine wl_nil ?_
  refine W_th ?_
  refine W_seq ?_
  refine W_seq ?_
  refine W_reg (by kernel_rfl) ?_
  refine wla rfl rfl (q_move (v := p2) rfl rfl) ?_
  refine wla rfl rfl (q_len rfl T22.sl rfl (hp2.lift (Lift.ext hE _))) ?_
  refine wla rfl rfl (q_move (v := (i64 0)) rfl rfl) ?_
  refine wl_nil ?_
  refine W_th ?_
  obtain ⟨x1, G1, H⟩ := Option.bind_eq_some_iff.1 H
  refine W_mid (fun f w => f 9 = (i64 x1) ∧ f 32 = undef ∧ Ext w0 w) ?_ ?_
  · refine W_block ?_
    refine W_loop (fun s1 f w => f 0 = p0 ∧ f 1 = p1 ∧ f 3 = p3 ∧ f 9 = (i64 s1.1) ∧ f 12 = p2 ∧ f 13 = (i64 ((a2xs.length : Int))) ∧ f 14 = (i64 s1.2) ∧ f 32 = undef ∧ Ext w0 w) G1 ?_ ?_
    · exact ⟨rfl, rfl, rfl, rfl, rfl, rfl, rfl, rfl, hE⟩
    · rintro s1 _ _ w2 ⟨s0_2, s1_2, s3_2, s9_2, s12_2, s13_2, s14_2, s32_2, hE2⟩ H1 hr1
      refine W_seq ?_
      refine W_reg (by kernel_rfl) ?_
      refine wla rfl rfl (q_ltI rfl s14_2 s13_2) ?_
      refine wl_nil ?_
      refine W_th ?_
      refine W_seq ?_
      refine W_cond _ rfl rfl (fun hb3 => ?_) (fun hb3 => ?_)
      · replace H1 := (if_pos (of_decide_eq_true hb3)).symm.trans H1
        refine W_skip ?_
        refine W_th ?_
        refine W_seq ?_
        refine W_block ?_
        refine W_seq ?_
        refine W_reg (by kernel_rfl) ?_
        refine wla rfl rfl (q_move (v := (i64 s1.2)) rfl s14_2) ?_
        obtain ⟨c4, hc4, H1⟩ := Option.bind_eq_some_iff.1 H1
        refine wla rfl rfl (q_adr rfl T22 s12_2 s14_2 (hp2.lift (Lift.ext hE2 _)) hc4) ?_
        refine wlq rfl rfl (q_loadS rfl T22 rfl (hp2.lift (Lift.ext hE2 _)) hc4) ?_
        refine wla rfl rfl (q_assign (v := (i64 s1.2)) rfl rfl) ?_
        refine wla rfl rfl (q_assign (v := (u8 c4)) rfl rfl) ?_
        refine wl_nil ?_
        refine W_th ?_
        refine W_seq ?_
        refine W_draw [7] [(0, 0), (1, 0), (2, 0), (4, 0), (5, 0), (6, 0), (7, 1), (3, 2), (8, 0)] mixed (by kernel_rfl) (by kernel_rfl) (by kernel_rfl) (by kernel_rfl) ?_
        have x5 := Ext.drew w2
        have e6 := hE2.trans x5
        refine wsa rfl rfl rfl (q_move (v := p0) rfl s0_2) ?_
        refine wsa rfl rfl rfl (q_move (v := p1) rfl s1_2) ?_
        refine wsa rfl rfl rfl (q_move (v := (u8 c4)) rfl rfl) ?_
        refine wsa rfl rfl rfl (q_move (v := p3) rfl s3_2) ?_
        refine wsa rfl rfl rfl (q_move (v := (i64 s1.2)) rfl rfl) ?_
        obtain ⟨c7, hc7, H1⟩ := Option.bind_eq_some_iff.1 H1
        refine wsa rfl rfl rfl (q_adr rfl T22 rfl rfl (hp3.lift (Lift.ext e6 _)) hc7) ?_
        refine wsq rfl rfl rfl (q_loadS rfl T22 rfl (hp3.lift (Lift.ext e6 _)) hc7) ?_
        obtain ⟨r8, hr8, H1⟩ := Option.bind_eq_some_iff.1 H1
        refine wss rfl rfl rfl (stp_call (vs := [p0, p1, (u8 c4)]) Try.func17 rfl rfl rfl (ar3 rfl rfl rfl) (poly_Eval_calls a0f a1p c4 p0 p1 r8 _ (hp0.lift (Lift.ext e6 _)) (hp1.lift (Lift.ext e6 _)) hr8) ?_)
        rintro _ w8 ⟨rfl, x8⟩
        refine ⟨_, rfl, x8, ?_⟩
        have e9 := e6.trans x8
        refine wsa rfl rfl rfl (q_ne8 rfl rfl rfl) ?_
        refine ws_nil ?_
        refine W_th ?_
        refine W_cond _ rfl rfl (fun hb10 => ?_) (fun hb10 => ?_)
        · replace H1 := (if_neg (ndec_t hb10)).symm.trans H1
          refine W_reg (by kernel_rfl) ?_
          refine wla rfl rfl (q_move (v := (i64 s1.1)) rfl s9_2) ?_
          refine wla rfl rfl (q_addI rfl rfl rfl) ?_
          refine wla rfl rfl (q_assign (v := (i64 ((wI (s1.1 + 1))))) rfl rfl) ?_
          refine wl_nil ?_
          refine bk_n ?_
          refine W_th ?_
          refine W_reg (by kernel_rfl) ?_
          refine wla rfl rfl (q_addI rfl s14_2 rfl) ?_
          refine wla rfl rfl (q_move (v := (i64 ((wI (s1.2 + 1))))) rfl rfl) ?_
          refine wl_nil ?_
          obtain rfl := Option.some.inj H1
          exact ⟨_, rfl, s0_2, s1_2, s3_2, rfl, s12_2, s13_2, rfl, s32_2, e9⟩
        · replace H1 := (if_pos (ndec_f hb10)).symm.trans H1
          refine W_skip ?_
          refine bk_n ?_
          refine W_th ?_
          refine W_reg (by kernel_rfl) ?_
          refine wla rfl rfl (q_addI rfl s14_2 rfl) ?_
          refine wla rfl rfl (q_move (v := (i64 ((wI (s1.2 + 1))))) rfl rfl) ?_
          refine wl_nil ?_
          obtain rfl := Option.some.inj H1
          exact ⟨_, rfl, s0_2, s1_2, s3_2, s9_2, s12_2, s13_2, rfl, s32_2, e9⟩
      · replace H1 := (if_neg (of_decide_eq_false hb3)).symm.trans H1
        refine W_exit ?_
        refine th_x ?_
        obtain rfl := Option.some.inj H1
        obtain rfl := hr1 _ rfl
        refine th_x ?_
        refine bk_x ?_
        exact ⟨s9_2, s32_2, hE2⟩
  · rintro _ w12 ⟨s9_12, s32_12, hE12⟩
    refine W_th ?_
    refine W_seq ?_
    refine W_reg (by kernel_rfl) ?_
    refine wla rfl rfl (q_move (v := (i64 x1)) rfl s9_12) ?_
    refine wla rfl rfl (q_assign (v := (i64 x1)) rfl rfl) ?_
    refine wl_nil ?_
    refine W_th ?_
    refine W_ret ?_
    obtain rfl := Option.some.inj H
    refine rt1 (i64 x1) rfl rfl rfl s32_12 ?_
    exact ⟨rfl, hE12⟩

/-! largesse/mend.column -/
noncomputable def mend_column (a0f : Bool) (a1t : Int) (a2xs : List UInt8) (a3ys : List UInt8) (a4e : Int) : Option (List UInt8 × Int) :=
((mend_gao a0f a1t a2xs a3ys).bind fun r1 =>
(if (!r1.2) = true then some (([] : List UInt8), 11)
else
((mend_wrong a0f r1.1 a2xs a3ys).bind fun r5 =>
((mend_Radius (a2xs.length : Int) a1t).bind fun r7 =>
(if (if r7 < a4e then r7 else a4e) < r5 then some (([] : List UInt8), 11)
else some (r1.1, 0))))))
set_option maxRecDepth 100000 in
set_option maxHeartbeats 8000000 in
theorem mend_column_calls (a0f : Bool) (a1t : Int) (a2xs : List UInt8) (a3ys : List UInt8) (a4e : Int) (p0 : Value) (p2 : Value) (p3 : Value) (r : List UInt8 × Int) (w0 : World) (hp0 : Fd w0 [] p0 a0f) (hp2 : By w0 [] p2 a2xs) (hp3 : By w0 [] p3 a3ys) (H : mend_column a0f a1t a2xs a3ys a4e = some r) :
    Calls Try.prog 36 [p0, (i64 a1t), p2, p3, (i64 a4e)].toArray w0 (fun e w' => ∃ u0 : Value, e = .returned (.tuple #[u0, (i64 r.2)]) ∧ Ext w0 w' ∧ Nw w0 u0 ∧ By w' [] u0 r.1) := by
  have hE : Ext w0 w0 := Ext.refl w0
  unfold mend_column at H
  refine calls_W (n := 39) Try.func36 rfl rfl rfl ?_
  refine W_seq ?_
  refine W_reg (by kernel_rfl) ?_
  refine wla rfl rfl (q_assign (v := (.slice none 0 0)) rfl rfl) ?_
  refine wla rfl rfl (q_assign (v := (i64 0)) rfl rfl) ?_
  refine wl_nil ?_
  refine W_th ?_
  refine W_seq ?_
  refine W_reg (by kernel_rfl) ?_
  refine wla rfl rfl (q_move (v := p0) rfl rfl) ?_
  refine wla rfl rfl (q_move (v := (i64 a1t)) rfl rfl) ?_
  refine wla rfl rfl (q_move (v := p2) rfl rfl) ?_
  refine wla rfl rfl (q_move (v := p3) rfl rfl) ?_
  obtain ⟨r1, hr1, H⟩ := Option.bind_eq_some_iff.1 H
  refine wls rfl rfl (stp_call (vs := [p0, (i64 a1t), p2, p3]) Try.func72 rfl rfl rfl (ar4 rfl rfl rfl rfl) (mend_gao_calls a0f a1t a2xs a3ys p0 p2 p3 r1 _ (hp0.lift (Lift.ext hE _)) (hp2.lift (Lift.ext hE _)) (hp3.lift (Lift.ext hE _)) hr1) ?_)
  rintro _ w1 ⟨v1_0, rfl, x1, n1_0, o1_0⟩
  refine ⟨_, rfl, ?_⟩
  have n2 := Nw.ext hE n1_0
  have i1_0 : By w1 [] v1_0 r1.1 := SlK.avail o1_0 _ (fun k hk => (Old.nil _) k (n1_0 k hk))
  have e3 := hE.trans x1
  refine wla rfl rfl (q_move (v := (.tuple #[v1_0, (.bool r1.2)])) rfl rfl) ?_
  refine wla rfl rfl (q_extract rfl rfl rfl) ?_
  refine wla rfl rfl (q_extract rfl rfl rfl) ?_
  refine wla rfl rfl (q_assign (v := v1_0) rfl rfl) ?_
  refine wla rfl rfl (q_assign (v := (.bool r1.2)) rfl rfl) ?_
  refine wl_nil ?_
  refine W_th ?_
  refine W_seq ?_
  refine W_seq ?_
  refine W_reg (by kernel_rfl) ?_
  refine wla rfl rfl (q_move (v := (.bool r1.2)) rfl rfl) ?_
  refine wla rfl rfl (q_not rfl rfl) ?_
  refine wlb rfl rfl (q_move (v := (.bool ((!r1.2)))) rfl rfl) (fun hb4 => ?_) (fun hb4 => ?_)
  · replace H := (if_pos hb4).symm.trans H
    refine wlk rfl rfl ?_
    refine wlk rfl rfl ?_
    refine wlk rfl rfl ?_
    refine wlk rfl rfl ?_
    refine wlk rfl rfl ?_
    refine wlk rfl rfl ?_
    refine wlk rfl rfl ?_
    refine wlk rfl rfl ?_
    refine wlk rfl rfl ?_
    refine wlk rfl rfl ?_
    refine wlk rfl rfl ?_
    refine wlk rfl rfl ?_
    refine wla rfl rfl (q_pick_t (v := (.bool true)) rfl rfl rfl) ?_
    refine wl_nil ?_
    refine W_th ?_
    refine W_cond true rfl rfl (fun _ => ?_) (fun hb => by cases hb)
    refine W_seq ?_
    refine W_reg (by kernel_rfl) ?_
    refine wla rfl rfl (q_assign (v := (.slice none 0 0)) rfl rfl) ?_
    refine wla rfl rfl (q_assign (v := (i64 11)) rfl rfl) ?_
    refine wl_nil ?_
    refine W_th ?_
    refine W_ret ?_
    refine th_r ?_
    obtain rfl := Option.some.inj H
    refine rt2 (.slice none 0 0) (i64 11) rfl rfl rfl rfl rfl rfl ?_
    exact ⟨(.slice none 0 0), rfl, e3, Nw.nil _, (SlK.nil _ _ _)⟩
  · replace H := (if_neg (ne_true_of_eq_false hb4)).symm.trans H
    refine wla rfl rfl (q_move (v := p0) rfl rfl) ?_
    refine wla rfl rfl (q_move (v := v1_0) rfl rfl) ?_
    refine wla rfl rfl (q_move (v := p2) rfl rfl) ?_
    refine wla rfl rfl (q_move (v := p3) rfl rfl) ?_
    obtain ⟨r5, hr5, H⟩ := Option.bind_eq_some_iff.1 H
    refine wls rfl rfl (stp_call (vs := [p0, v1_0, p2, p3]) Try.func73 rfl rfl rfl (ar4 rfl rfl rfl rfl) (mend_wrong_calls a0f r1.1 a2xs a3ys p0 v1_0 p2 p3 r5 _ (hp0.lift (Lift.ext e3 _)) (i1_0.lift (Lift.sub (fun _ _ => trivial))) (hp2.lift (Lift.ext e3 _)) (hp3.lift (Lift.ext e3 _)) hr5) ?_)
    rintro _ w5 ⟨rfl, x5⟩
    refine ⟨_, rfl, ?_⟩
    replace i1_0 := i1_0.lift (Lift.ext x5 _)
    have e6 := e3.trans x5
    refine wla rfl rfl (q_move (v := (i64 a4e)) rfl rfl) ?_
    refine wla rfl rfl (q_move (v := p2) rfl rfl) ?_
    refine wla rfl rfl (q_len rfl T22.sl rfl (hp2.lift (Lift.ext e6 _))) ?_
    refine wla rfl rfl (q_move (v := (i64 a1t)) rfl rfl) ?_
    obtain ⟨r7, hr7, H⟩ := Option.bind_eq_some_iff.1 H
    refine wls rfl rfl (stp_call (vs := [(i64 ((a2xs.length : Int))), (i64 a1t)]) Try.func23 rfl rfl rfl (ar2 rfl rfl) (mend_Radius_calls (a2xs.length : Int) a1t  r7 _  hr7) ?_)
    rintro _ w7 ⟨rfl, x7⟩
    refine ⟨_, rfl, ?_⟩
    replace i1_0 := i1_0.lift (Lift.ext x7 _)
    have e8 := e6.trans x7
    refine wla rfl rfl (q_minI rfl rfl rfl) ?_
    refine wla rfl rfl (q_gtI rfl rfl rfl) ?_
    refine wla rfl rfl (q_pick_f (v := (.bool ((decide ((if r7 < a4e then r7 else a4e) < r5))))) rfl rfl rfl) ?_
    refine wl_nil ?_
    refine W_th ?_
    refine W_cond _ rfl rfl (fun hb9 => ?_) (fun hb9 => ?_)
    · replace H := (if_pos (of_decide_eq_true hb9)).symm.trans H
      refine W_seq ?_
      refine W_reg (by kernel_rfl) ?_
      refine wla rfl rfl (q_assign (v := (.slice none 0 0)) rfl rfl) ?_
      refine wla rfl rfl (q_assign (v := (i64 11)) rfl rfl) ?_
      refine wl_nil ?_
      refine W_th ?_
      refine W_ret ?_
      refine th_r ?_
      obtain rfl := Option.some.inj H
      refine rt2 (.slice none 0 0) (i64 11) rfl rfl rfl rfl rfl rfl ?_
      exact ⟨(.slice none 0 0), rfl, e8, Nw.nil _, (SlK.nil _ _ _)⟩
    · replace H := (if_neg (of_decide_eq_false hb9)).symm.trans H
      refine W_skip ?_
      refine W_th ?_
      refine W_seq ?_
      refine W_reg (by kernel_rfl) ?_
      refine wla rfl rfl (q_move (v := v1_0) rfl rfl) ?_
      refine wla rfl rfl (q_assign (v := v1_0) rfl rfl) ?_
      refine wla rfl rfl (q_assign (v := (i64 0)) rfl rfl) ?_
      refine wl_nil ?_
      refine W_th ?_
      refine W_ret ?_
      obtain rfl := Option.some.inj H
      refine rt2 v1_0 (i64 0) rfl rfl rfl rfl rfl rfl ?_
      exact ⟨v1_0, rfl, e8, n2, (i1_0.lift (Lift.sub (fun _ _ => trivial)))⟩

/-! largesse/mend.Column -/
noncomputable def mend_Column (a0f : Bool) (a1t : Int) (a2xs : List UInt8) (a3ys : List UInt8) (a4e : Int) : Option (List UInt8 × Int) :=
((mend_check a0f a1t a2xs (a3ys.length : Int) a4e).bind fun r1 =>
(if r1 = 0 then
((mend_column a0f a1t a2xs a3ys a4e).bind fun r4 => some (r4.1, r4.2))
else some (([] : List UInt8), r1)))
set_option maxRecDepth 100000 in
set_option maxHeartbeats 8000000 in
theorem mend_Column_calls (a0f : Bool) (a1t : Int) (a2xs : List UInt8) (a3ys : List UInt8) (a4e : Int) (p0 : Value) (p2 : Value) (p3 : Value) (r : List UInt8 × Int) (w0 : World) (hp0 : Fd w0 [] p0 a0f) (hp2 : By w0 [] p2 a2xs) (hp3 : By w0 [] p3 a3ys) (H : mend_Column a0f a1t a2xs a3ys a4e = some r) :
    Calls Try.prog 11 [p0, (i64 a1t), p2, p3, (i64 a4e)].toArray w0 (fun e w' => ∃ u0 : Value, e = .returned (.tuple #[u0, (i64 r.2)]) ∧ Ext w0 w' ∧ Nw w0 u0 ∧ By w' [] u0 r.1) := by
  have hE : Ext w0 w0 := Ext.refl w0
  unfold mend_Column at H
  refine calls_W (n := 31) Try.func11 rfl rfl rfl ?_
  refine W_seq ?_
  refine W_reg (by kernel_rfl) ?_
  refine wla rfl rfl (q_assign (v := (.slice none 0 0)) rfl rfl) ?_
  refine wla rfl rfl (q_assign (v := (i64 0)) rfl rfl) ?_
  refine wl_nil ?_
  refine W_th ?_
  refine W_seq ?_
  refine W_seq ?_
  refine W_reg (by kernel_rfl) ?_
  refine wla rfl rfl (q_move (v := p0) rfl rfl) ?_
  refine wla rfl rfl (q_move (v := (i64 a1t)) rfl rfl) ?_
  refine wla rfl rfl (q_move (v := p2) rfl rfl) ?_
  refine wla rfl rfl (q_move (v := p3) rfl rfl) ?_
  refine wla rfl rfl (q_len rfl T22.sl rfl (hp3.lift (Lift.ext hE _))) ?_
  refine wla rfl rfl (q_move (v := (i64 a4e)) rfl rfl) ?_
  obtain ⟨r1, hr1, H⟩ := Option.bind_eq_some_iff.1 H
  refine wls rfl rfl (stp_call (vs := [p0, (i64 a1t), p2, (i64 ((a3ys.length : Int))), (i64 a4e)]) Try.func35 rfl rfl rfl (ar5 rfl rfl rfl rfl rfl) (mend_check_calls a0f a1t a2xs (a3ys.length : Int) a4e p0 p2 r1 _ (hp0.lift (Lift.ext hE _)) (hp2.lift (Lift.ext hE _)) hr1) ?_)
  rintro _ w1 ⟨rfl, x1⟩
  refine ⟨_, rfl, ?_⟩
  have e2 := hE.trans x1
  refine wla rfl rfl (q_assign (v := (i64 r1)) rfl rfl) ?_
  refine wl_nil ?_
  refine W_th ?_
  refine W_seq ?_
  refine W_reg (by kernel_rfl) ?_
  refine wla rfl rfl (q_move (v := (i64 r1)) rfl rfl) ?_
  refine wla rfl rfl (q_neI rfl rfl rfl) ?_
  refine wl_nil ?_
  refine W_th ?_
  refine W_cond _ rfl rfl (fun hb3 => ?_) (fun hb3 => ?_)
  · replace H := (if_neg (ndec_t hb3)).symm.trans H
    refine W_seq ?_
    refine W_reg (by kernel_rfl) ?_
    refine wla rfl rfl (q_move (v := (i64 r1)) rfl rfl) ?_
    refine wla rfl rfl (q_assign (v := (.slice none 0 0)) rfl rfl) ?_
    refine wla rfl rfl (q_assign (v := (i64 r1)) rfl rfl) ?_
    refine wl_nil ?_
    refine W_th ?_
    refine W_ret ?_
    refine th_r ?_
    obtain rfl := Option.some.inj H
    refine rt2 (.slice none 0 0) (i64 r1) rfl rfl rfl rfl rfl rfl ?_
    exact ⟨(.slice none 0 0), rfl, e2, Nw.nil _, (SlK.nil _ _ _)⟩
  · replace H := (if_pos (ndec_f hb3)).symm.trans H
    refine W_skip ?_
    refine W_th ?_
    refine W_seq ?_
    refine W_reg (by kernel_rfl) ?_
    refine wla rfl rfl (q_move (v := p0) rfl rfl) ?_
    refine wla rfl rfl (q_move (v := (i64 a1t)) rfl rfl) ?_
    refine wla rfl rfl (q_move (v := p2) rfl rfl) ?_
    refine wla rfl rfl (q_move (v := p3) rfl rfl) ?_
    refine wla rfl rfl (q_move (v := (i64 a4e)) rfl rfl) ?_
    obtain ⟨r4, hr4, H⟩ := Option.bind_eq_some_iff.1 H
    refine wls rfl rfl (stp_call (vs := [p0, (i64 a1t), p2, p3, (i64 a4e)]) Try.func36 rfl rfl rfl (ar5 rfl rfl rfl rfl rfl) (mend_column_calls a0f a1t a2xs a3ys a4e p0 p2 p3 r4 _ (hp0.lift (Lift.ext e2 _)) (hp2.lift (Lift.ext e2 _)) (hp3.lift (Lift.ext e2 _)) hr4) ?_)
    rintro _ w4 ⟨v4_0, rfl, x4, n4_0, o4_0⟩
    refine ⟨_, rfl, ?_⟩
    have n5 := Nw.ext e2 n4_0
    have i4_0 : By w4 [] v4_0 r4.1 := SlK.avail o4_0 _ (fun k hk => (Old.nil _) k (n4_0 k hk))
    have e6 := e2.trans x4
    refine wla rfl rfl (q_extract rfl rfl rfl) ?_
    refine wla rfl rfl (q_extract rfl rfl rfl) ?_
    refine wla rfl rfl (q_assign (v := v4_0) rfl rfl) ?_
    refine wla rfl rfl (q_assign (v := (i64 r4.2)) rfl rfl) ?_
    refine wl_nil ?_
    refine W_th ?_
    refine W_ret ?_
    obtain rfl := Option.some.inj H
    refine rt2 v4_0 (i64 r4.2) rfl rfl rfl rfl rfl rfl ?_
    exact ⟨v4_0, rfl, e6, n5, (i4_0.lift (Lift.sub (fun _ _ => trivial)))⟩

end Gk

/- Maps from numbers to bools: made, written, read, counted. No condition. -/


set_option linter.unusedVariables false
set_option linter.unusedSimpArgs false
namespace Gk
open Go Go.RowKit

def mputI (m : List (Int × Bool)) (k : Int) (v : Bool) : List (Int × Bool) := if k ∈ m.map (·.1) then m.map (fun p => if p.1 = k then (p.1, v) else p) else m ++ [(k, v)]
def mgetI (m : List (Int × Bool)) (k : Int) : Bool := ((m.find? (fun p => p.1 == k)).map (·.2)).getD false
/-- In w, block g is a map with these entries. -/
def MpI (w : World) (g : Nat) (m : List (Int × Bool)) : Prop :=
  ∃ es clock, w.heap[g]? = some (.map es clock) ∧ es.toList.map (fun e => (e.key, e.val)) = m.map (fun p => (i64 p.1, Value.bool p.2)) ∧ (m.map (·.1)).Nodup
theorem MpI.lt {w : World} {g : Nat} {m : List (Int × Bool)} (h : MpI w g m) : g < w.heap.size := by
  obtain ⟨es, c, h, _⟩ := h; exact lt_of_get h
theorem MpI.ltB {w : World} {g : Nat} {m : List (Int × Bool)} (h : MpI w g m) : ∀ k, Hs (mp g) k → k < w.heap.size := fun k e => by
  have e' : g = k := Option.some.inj (hs_map e)
  subst e'; exact h.lt
theorem MpI.ext {w w' : World} {g : Nat} {m : List (Int × Bool)} (h : MpI w g m) (x : Ext w w') : MpI w' g m := by
  have hl := h.lt
  obtain ⟨es, c, h1, h2⟩ := h
  exact ⟨es, c, (x.blk g hl).trans h1, h2⟩
theorem MpI.nq {w : World} {g : Nat} {m : List (Int × Bool)} {v : Value} (h : MpI w g m) (hn : Nw w v) : Nq (mp g) v := fun k hu hv => by
  have := h.ltB k hu; have := hn k hv; omega
theorem MpI.nxt {w : World} {g : Nat} {m : List (Int × Bool)} {v v' : Value} (h : MpI w g m) (hq : Nq (mp g) v) (hn : Nx w v v') : Nq (mp g) v' := fun k hu hv => by
  rcases hn k hv with h1 | h1
  · exact hq k hu h1
  · have := h.ltB k hu; omega
theorem MpI.other {w w' : World} {g : Nat} {m : List (Int × Bool)} {v : Value} (h : MpI w g m) (hg : Gr w w' v) (hq : Nq (mp g) v) : MpI w' g m := by
  have hl := h.lt
  obtain ⟨es, c, h1, h2⟩ := h
  exact ⟨es, c, (hg.block hl (hq g (.inl rfl))).trans h1, h2⟩
theorem MpI.keys {w : World} {g : Nat} {m : List (Int × Bool)} {es : Array MapEntry} (h : es.toList.map (fun e => (e.key, e.val)) = m.map (fun p => (i64 p.1, Value.bool p.2))) : ∀ x ∈ es.toList, ∃ p ∈ m, x.key = i64 p.1 ∧ x.val = .bool p.2 := by
  intro x hx
  have h1 : (x.key, x.val) ∈ es.toList.map (fun e => (e.key, e.val)) := List.mem_map.2 ⟨x, hx, rfl⟩
  rw [h] at h1
  obtain ⟨p, hp, e⟩ := List.mem_map.1 h1
  simp only [Prod.mk.injEq] at e
  exact ⟨p, hp, e.1.symm, e.2.symm⟩
theorem i64_inj {a b : Int} (h : i64 a = i64 b) : a = b := by
  simpa only [i64, Value.int.injEq, true_and] using h
theorem isKey_i64 (a : Int) : MapKept.IsKey (.int .i64) (i64 a) := rfl
/-- The entry at a key. -/
theorem MpI.find {m : List (Int × Bool)} {es : Array MapEntry} (h : es.toList.map (fun e => (e.key, e.val)) = m.map (fun p => (i64 p.1, Value.bool p.2))) (k : Int) :
    (Instr.findNow (.int .i64) (i64 k) es.toList 0 = some none ∧ k ∉ m.map (·.1)) ∨ ∃ j e p, Instr.findNow (.int .i64) (i64 k) es.toList 0 = some (some (j, .bool p.2)) ∧ es[j]? = some e ∧ e.key = i64 k ∧ m[j]? = some p ∧ p.1 = k := by
  have hks : ∀ x ∈ es.toList, MapKept.IsKey (.int .i64) x.key := fun x hx => by
    obtain ⟨p, _, e, _⟩ := MpI.keys (w := default) (g := 0) h x hx
    rw [e]; rfl
  rcases MapKept.findNow_spec (isKey_i64 k) es.toList 0 hks with ⟨h1, h2⟩ | ⟨j, e, h1, h2, h3⟩
  · refine .inl ⟨h1, fun hk => ?_⟩
    obtain ⟨p, hp, rfl⟩ := List.mem_map.1 hk
    have h4 : (i64 p.1, Value.bool p.2) ∈ es.toList.map (fun e => (e.key, e.val)) := by rw [h]; exact List.mem_map.2 ⟨p, hp, rfl⟩
    obtain ⟨x, hx, e⟩ := List.mem_map.1 h4
    simp only [Prod.mk.injEq] at e
    exact h2 x hx e.1
  · have h4 := congrArg (·[j]?) h
    simp only [List.getElem?_map, h2, Option.map_some] at h4
    cases hm : m[j]? with
    | none => rw [hm] at h4; cases h4
    | some p =>
      rw [hm] at h4
      simp only [Option.map_some, Option.some.injEq, Prod.mk.injEq] at h4
      refine .inr ⟨j, e, p, ?_, by simpa using h2, h3, hm, ?_⟩
      · rw [h1, h4.2, Nat.zero_add]
      · exact i64_inj (h4.1.symm.trans h3)
theorem nd_injI {m : List (Int × Bool)} (hn : (m.map (·.1)).Nodup) {i j : Nat} {p q : Int × Bool} (hi : m[i]? = some p) (hj : m[j]? = some q) (e : p.1 = q.1) : i = j := by
  obtain ⟨hil, hip⟩ := List.getElem?_eq_some_iff.1 hi
  obtain ⟨hjl, hjq⟩ := List.getElem?_eq_some_iff.1 hj
  have h := List.pairwise_iff_getElem.1 hn
  rcases Nat.lt_trichotomy i j with h1 | h1 | h1
  · exact (h i j (by simpa using hil) (by simpa using hjl) h1 (by simp [hip, hjq, e])).elim
  · exact h1
  · exact (h j i (by simpa using hjl) (by simpa using hil) h1 (by simp [hip, hjq, e])).elim
theorem mput_atI {m : List (Int × Bool)} (hn : (m.map (·.1)).Nodup) {j : Nat} {p : Int × Bool} (hj : m[j]? = some p) (v : Bool) : m.map (fun q => if q.1 = p.1 then (q.1, v) else q) = m.set j (p.1, v) := by
  apply List.ext_getElem?
  intro i
  obtain ⟨hjl, hjp⟩ := List.getElem?_eq_some_iff.1 hj
  rw [List.getElem?_map, List.getElem?_set]
  by_cases hij : j = i
  · subst hij
    rw [hj, if_pos rfl, if_pos hjl]; simp
  · rw [if_neg hij]
    cases hi : m[i]? with
    | none => rfl
    | some q =>
      obtain ⟨hil, hiq⟩ := List.getElem?_eq_some_iff.1 hi
      have : q.1 ≠ p.1 := fun e => hij (nd_injI hn hj hi e.symm)
      simp [this]
theorem mput_nodupI {m : List (Int × Bool)} (hn : (m.map (·.1)).Nodup) (k : Int) (v : Bool) : ((mputI m k v).map (·.1)).Nodup := by
  unfold mputI
  split
  · rw [List.map_map]
    have : ((fun x : Int × Bool => x.1) ∘ fun p => if p.1 = k then (p.1, v) else p) = (fun x => x.1) := by
      funext p; simp only [Function.comp]; split <;> rfl
    rw [this]; exact hn
  · rename_i hk
    rw [List.map_append, List.nodup_append]
    refine ⟨hn, by simp, ?_⟩
    intro a ha b hb e
    simp only [List.map_cons, List.map_nil, List.mem_singleton] at hb
    subst hb; subst e; exact hk ha

section
variable {P : Program} {f : Nat → Value} {w : World} {o : Oper} {x y z : Operand} {t kt et : TypeId} {g : Nat} {m : List (Int × Bool)} {k : Int} {b : Bool}
theorem stp_makeMapI (L : List Value) (ho : o.op = .makeMap t none) {K : Value → World → Prop}
    (hk : ∀ g w', MpI w' g [] → Nw w (mp g) → w.grownBy w' none → Lift w w' L (mp g :: L) → K (mp g) w') : Stp P o f w K := by
  have hg := World.grownBy_alloc w (.map #[] 0) none
  refine stp_of_run (w' := w.alloc (.map #[] 0)) (v := mp w.heap.size) ?_ (hk _ _ ⟨#[], 0, alloc_new w _, by simp, by simp⟩ (Nw.mp w) hg (Lift.new L hg (Nw.mp w)))
  simp [execOp, ho, Instr.makeMap, newObj, Sem.run]
theorem stp_mapUpdateI (L1 L2 : List Value) (ho : o.op = .mapUpdate t x y z ∨ o.op = .insert t x y z) (ht : P.underlying t = some (.map kt et)) (hkt : P.underlying kt = some (.int .i64)) (hx : ev f x = mp g) (hy : ev f y = i64 k) (hz : ev f z = .bool b) (h : MpI w g m)
    {K : Value → World → Prop} (hk : ∀ w', MpI w' g (mputI m k b) → Gr w w' (mp g) → Lift w w' (L1 ++ mp g :: L2) (L1 ++ mp g :: L2) → K undef w') : Stp P o f w K := by
  obtain ⟨es, c, hb, he, hn⟩ := h
  have key : ∀ es' c', es'.toList.map (fun e => (e.key, e.val)) = (mputI m k b).map (fun p => (i64 p.1, Value.bool p.2)) → (Instr.mapUpdate t (mp g) (i64 k) (.bool b)).run P w = .ok () (w.putObj g (.map es' c')) → Stp P o f w K := by
    intro es' c' he' hr
    have hg := grownBy_putObj' w g (.map es' c')
    refine stp_of_skip (w' := w.putObj g (.map es' c')) ?_ (hk _ ⟨es', c', World.putObj_heap_same (lt_of_get hb), he', mput_nodupI hn k b⟩ (Gr.of hg) (Lift.own L1 L2 (Gr.of hg) (Nx.refl _ _)))
    rcases ho with ho | ho
    · simp only [execOp, ho, hx, hy, hz, Sem.run_bind, hr, Result.andThen_ok]
      rfl
    · simp only [execOp, ho, hx, hy, hz, Sem.run_bind, hr, Result.andThen_ok]
      rfl
  rcases MpI.find he k with ⟨h1, h2⟩ | ⟨j, e, p, h1, h2, h3, h4, h5⟩
  · refine key (es.push { key := i64 k, val := .bool b, born := c }) (c + 1) ?_ ?_
    · unfold mputI
      rw [if_neg h2]
      simp only [Array.toList_push, List.map_append, he, List.map_cons, List.map_nil]
    · simp [Instr.mapUpdate, run_underlying ht, MapKept.run_getObj_map hb, MapKept.run_checkKey hkt (isKey_i64 k), MapKept.run_findKey hkt h1, MapKept.run_setObj_map _ hb, Result.andThen, World.putObj]
  · subst h5
    refine key (es.modify j fun e => { e with key := i64 p.1, val := .bool b }) c ?_ ?_
    · unfold mputI
      rw [if_pos (List.mem_map.2 ⟨p, List.mem_of_getElem? h4, rfl⟩), mput_atI hn h4]
      apply List.ext_getElem?
      intro i
      have hi := congrArg (·[i]?) he
      simp only [List.getElem?_map, Array.getElem?_toList] at hi
      simp only [List.getElem?_map, Array.getElem?_toList, Array.getElem?_modify, List.getElem?_set]
      by_cases hij : j = i
      · subst hij
        obtain ⟨hl, _⟩ := List.getElem?_eq_some_iff.1 h4
        simp [h2, hl]
      · simp only [if_neg hij]; exact hi
    · simp [Instr.mapUpdate, run_underlying ht, MapKept.run_getObj_map hb, MapKept.run_checkKey hkt (isKey_i64 p.1), MapKept.run_findKey hkt h1, h2, h3, MapKept.run_keyThatStays (isKey_i64 p.1), MapKept.run_setObj_map _ hb, Result.andThen, World.putObj]
theorem q_lenMapI (ho : o.op = .call ⟨.builtin .len, #[x], #[t]⟩) (ht : P.underlying t = some (.map kt et)) (hx : ev f x = mp g) (h : MpI w g m) : Qt P o f w (i64 (m.length : Int)) := by
  intro w' hE
  obtain ⟨es, c, hb, he, _⟩ := h.ext hE
  have hl : es.size = m.length := by have := congrArg List.length he; simpa using this
  rw [exec_builtin _ ho]
  simp [builtin, Builtin.len_, run_underlying ht, hx, MapKept.run_getObj_map hb, Result.andThen, goInt, hl, i64]
theorem q_lookupI (ho : o.op = .lookup t x y false) (ht : P.underlying t = some (.map kt et)) (hkt : P.underlying kt = some (.int .i64)) (hz : ∀ w, (zeroValue et).run P w = .ok (.bool false) w) (hx : ev f x = mp g) (hy : ev f y = i64 k) (h : MpI w g m) : Qt P o f w (.bool (mgetI m k)) := by
  intro w' hE
  obtain ⟨es, c, hb, he, hn⟩ := h.ext hE
  rcases MpI.find he k with ⟨h1, h2⟩ | ⟨j, e, p, h1, h2, h3, h4, h5⟩
  · have : mgetI m k = false := by
      unfold mgetI
      rw [List.find?_eq_none.2 (fun q hq e => h2 (List.mem_map.2 ⟨q, hq, by simpa using e⟩))]; rfl
    rw [this]
    simp [execOp, ho, hx, hy, Instr.lookup, run_underlying ht, MapKept.run_getObj_map hb, MapKept.run_checkKey hkt (isKey_i64 k), MapKept.run_findKey hkt h1, hz, Result.andThen]
  · subst h5
    have : mgetI m p.1 = p.2 := by
      unfold mgetI
      have hex : ∃ q ∈ m, (q.1 == p.1) = true := ⟨p, List.mem_of_getElem? h4, by simp⟩
      cases hf : m.find? (fun q => q.1 == p.1) with
      | none => exact absurd hf (by rw [List.find?_eq_none]; intro hh; exact hh p (List.mem_of_getElem? h4) (by simp))
      | some q =>
        have hq1 : q.1 = p.1 := by simpa using List.find?_some hf
        have hqm := List.mem_of_find?_eq_some hf
        obtain ⟨i, hi⟩ := List.getElem?_of_mem hqm
        have : q = p := by
          by_cases hij : i = j
          · subst hij; rw [h4] at hi; exact (Option.some.inj hi).symm
          · exact absurd (nd_injI hn hi h4 hq1) hij
        rw [this]; rfl
    rw [this]
    simp [execOp, ho, hx, hy, Instr.lookup, run_underlying ht, MapKept.run_getObj_map hb, MapKept.run_checkKey hkt (isKey_i64 p.1), MapKept.run_findKey hkt h1, Result.andThen]
end
end Gk

/- Maps from numbers to bytes: made, written, read, counted. No condition. -/


set_option linter.unusedVariables false
set_option linter.unusedSimpArgs false
namespace Gk
open Go Go.RowKit

def mputJ (m : List (Int × UInt8)) (k : Int) (v : UInt8) : List (Int × UInt8) := if k ∈ m.map (·.1) then m.map (fun p => if p.1 = k then (p.1, v) else p) else m ++ [(k, v)]
def mgetJ (m : List (Int × UInt8)) (k : Int) : UInt8 := ((m.find? (fun p => p.1 == k)).map (·.2)).getD 0
/-- In w, block g is a map with these entries. -/
def MpJ (w : World) (g : Nat) (m : List (Int × UInt8)) : Prop :=
  ∃ es clock, w.heap[g]? = some (.map es clock) ∧ es.toList.map (fun e => (e.key, e.val)) = m.map (fun p => (i64 p.1, u8 p.2)) ∧ (m.map (·.1)).Nodup
theorem MpJ.lt {w : World} {g : Nat} {m : List (Int × UInt8)} (h : MpJ w g m) : g < w.heap.size := by
  obtain ⟨es, c, h, _⟩ := h; exact lt_of_get h
theorem MpJ.ltB {w : World} {g : Nat} {m : List (Int × UInt8)} (h : MpJ w g m) : ∀ k, Hs (mp g) k → k < w.heap.size := fun k e => by
  have e' : g = k := Option.some.inj (hs_map e)
  subst e'; exact h.lt
theorem MpJ.ext {w w' : World} {g : Nat} {m : List (Int × UInt8)} (h : MpJ w g m) (x : Ext w w') : MpJ w' g m := by
  have hl := h.lt
  obtain ⟨es, c, h1, h2⟩ := h
  exact ⟨es, c, (x.blk g hl).trans h1, h2⟩
theorem MpJ.nq {w : World} {g : Nat} {m : List (Int × UInt8)} {v : Value} (h : MpJ w g m) (hn : Nw w v) : Nq (mp g) v := fun k hu hv => by
  have := h.ltB k hu; have := hn k hv; omega
theorem MpJ.nxt {w : World} {g : Nat} {m : List (Int × UInt8)} {v v' : Value} (h : MpJ w g m) (hq : Nq (mp g) v) (hn : Nx w v v') : Nq (mp g) v' := fun k hu hv => by
  rcases hn k hv with h1 | h1
  · exact hq k hu h1
  · have := h.ltB k hu; omega
theorem MpJ.other {w w' : World} {g : Nat} {m : List (Int × UInt8)} {v : Value} (h : MpJ w g m) (hg : Gr w w' v) (hq : Nq (mp g) v) : MpJ w' g m := by
  have hl := h.lt
  obtain ⟨es, c, h1, h2⟩ := h
  exact ⟨es, c, (hg.block hl (hq g (.inl rfl))).trans h1, h2⟩
theorem MpJ.keys {w : World} {g : Nat} {m : List (Int × UInt8)} {es : Array MapEntry} (h : es.toList.map (fun e => (e.key, e.val)) = m.map (fun p => (i64 p.1, u8 p.2))) : ∀ x ∈ es.toList, ∃ p ∈ m, x.key = i64 p.1 ∧ x.val = u8 p.2 := by
  intro x hx
  have h1 : (x.key, x.val) ∈ es.toList.map (fun e => (e.key, e.val)) := List.mem_map.2 ⟨x, hx, rfl⟩
  rw [h] at h1
  obtain ⟨p, hp, e⟩ := List.mem_map.1 h1
  simp only [Prod.mk.injEq] at e
  exact ⟨p, hp, e.1.symm, e.2.symm⟩
/-- The entry at a key. -/
theorem MpJ.find {m : List (Int × UInt8)} {es : Array MapEntry} (h : es.toList.map (fun e => (e.key, e.val)) = m.map (fun p => (i64 p.1, u8 p.2))) (k : Int) :
    (Instr.findNow (.int .i64) (i64 k) es.toList 0 = some none ∧ k ∉ m.map (·.1)) ∨ ∃ j e p, Instr.findNow (.int .i64) (i64 k) es.toList 0 = some (some (j, u8 p.2)) ∧ es[j]? = some e ∧ e.key = i64 k ∧ m[j]? = some p ∧ p.1 = k := by
  have hks : ∀ x ∈ es.toList, MapKept.IsKey (.int .i64) x.key := fun x hx => by
    obtain ⟨p, _, e, _⟩ := MpJ.keys (w := default) (g := 0) h x hx
    rw [e]; rfl
  rcases MapKept.findNow_spec (isKey_i64 k) es.toList 0 hks with ⟨h1, h2⟩ | ⟨j, e, h1, h2, h3⟩
  · refine .inl ⟨h1, fun hk => ?_⟩
    obtain ⟨p, hp, rfl⟩ := List.mem_map.1 hk
    have h4 : (i64 p.1, u8 p.2) ∈ es.toList.map (fun e => (e.key, e.val)) := by rw [h]; exact List.mem_map.2 ⟨p, hp, rfl⟩
    obtain ⟨x, hx, e⟩ := List.mem_map.1 h4
    simp only [Prod.mk.injEq] at e
    exact h2 x hx e.1
  · have h4 := congrArg (·[j]?) h
    simp only [List.getElem?_map, h2, Option.map_some] at h4
    cases hm : m[j]? with
    | none => rw [hm] at h4; cases h4
    | some p =>
      rw [hm] at h4
      simp only [Option.map_some, Option.some.injEq, Prod.mk.injEq] at h4
      refine .inr ⟨j, e, p, ?_, by simpa using h2, h3, hm, ?_⟩
      · rw [h1, h4.2, Nat.zero_add]
      · exact i64_inj (h4.1.symm.trans h3)
theorem nd_injJ {m : List (Int × UInt8)} (hn : (m.map (·.1)).Nodup) {i j : Nat} {p q : Int × UInt8} (hi : m[i]? = some p) (hj : m[j]? = some q) (e : p.1 = q.1) : i = j := by
  obtain ⟨hil, hip⟩ := List.getElem?_eq_some_iff.1 hi
  obtain ⟨hjl, hjq⟩ := List.getElem?_eq_some_iff.1 hj
  have h := List.pairwise_iff_getElem.1 hn
  rcases Nat.lt_trichotomy i j with h1 | h1 | h1
  · exact (h i j (by simpa using hil) (by simpa using hjl) h1 (by simp [hip, hjq, e])).elim
  · exact h1
  · exact (h j i (by simpa using hjl) (by simpa using hil) h1 (by simp [hip, hjq, e])).elim
theorem mput_atJ {m : List (Int × UInt8)} (hn : (m.map (·.1)).Nodup) {j : Nat} {p : Int × UInt8} (hj : m[j]? = some p) (v : UInt8) : m.map (fun q => if q.1 = p.1 then (q.1, v) else q) = m.set j (p.1, v) := by
  apply List.ext_getElem?
  intro i
  obtain ⟨hjl, hjp⟩ := List.getElem?_eq_some_iff.1 hj
  rw [List.getElem?_map, List.getElem?_set]
  by_cases hij : j = i
  · subst hij
    rw [hj, if_pos rfl, if_pos hjl]; simp
  · rw [if_neg hij]
    cases hi : m[i]? with
    | none => rfl
    | some q =>
      obtain ⟨hil, hiq⟩ := List.getElem?_eq_some_iff.1 hi
      have : q.1 ≠ p.1 := fun e => hij (nd_injJ hn hj hi e.symm)
      simp [this]
theorem mput_nodupJ {m : List (Int × UInt8)} (hn : (m.map (·.1)).Nodup) (k : Int) (v : UInt8) : ((mputJ m k v).map (·.1)).Nodup := by
  unfold mputJ
  split
  · rw [List.map_map]
    have : ((fun x : Int × UInt8 => x.1) ∘ fun p => if p.1 = k then (p.1, v) else p) = (fun x => x.1) := by
      funext p; simp only [Function.comp]; split <;> rfl
    rw [this]; exact hn
  · rename_i hk
    rw [List.map_append, List.nodup_append]
    refine ⟨hn, by simp, ?_⟩
    intro a ha b hb e
    simp only [List.map_cons, List.map_nil, List.mem_singleton] at hb
    subst hb; subst e; exact hk ha

section
variable {P : Program} {f : Nat → Value} {w : World} {o : Oper} {x y z : Operand} {t kt et : TypeId} {g : Nat} {m : List (Int × UInt8)} {k : Int} {b : UInt8}
theorem stp_makeMapJ (L : List Value) (ho : o.op = .makeMap t none) {K : Value → World → Prop}
    (hk : ∀ g w', MpJ w' g [] → Nw w (mp g) → w.grownBy w' none → Lift w w' L (mp g :: L) → K (mp g) w') : Stp P o f w K := by
  have hg := World.grownBy_alloc w (.map #[] 0) none
  refine stp_of_run (w' := w.alloc (.map #[] 0)) (v := mp w.heap.size) ?_ (hk _ _ ⟨#[], 0, alloc_new w _, by simp, by simp⟩ (Nw.mp w) hg (Lift.new L hg (Nw.mp w)))
  simp [execOp, ho, Instr.makeMap, newObj, Sem.run]
theorem stp_mapUpdateJ (L1 L2 : List Value) (ho : o.op = .mapUpdate t x y z ∨ o.op = .insert t x y z) (ht : P.underlying t = some (.map kt et)) (hkt : P.underlying kt = some (.int .i64)) (hx : ev f x = mp g) (hy : ev f y = i64 k) (hz : ev f z = u8 b) (h : MpJ w g m)
    {K : Value → World → Prop} (hk : ∀ w', MpJ w' g (mputJ m k b) → Gr w w' (mp g) → Lift w w' (L1 ++ mp g :: L2) (L1 ++ mp g :: L2) → K undef w') : Stp P o f w K := by
  obtain ⟨es, c, hb, he, hn⟩ := h
  have key : ∀ es' c', es'.toList.map (fun e => (e.key, e.val)) = (mputJ m k b).map (fun p => (i64 p.1, u8 p.2)) → (Instr.mapUpdate t (mp g) (i64 k) (u8 b)).run P w = .ok () (w.putObj g (.map es' c')) → Stp P o f w K := by
    intro es' c' he' hr
    have hg := grownBy_putObj' w g (.map es' c')
    refine stp_of_skip (w' := w.putObj g (.map es' c')) ?_ (hk _ ⟨es', c', World.putObj_heap_same (lt_of_get hb), he', mput_nodupJ hn k b⟩ (Gr.of hg) (Lift.own L1 L2 (Gr.of hg) (Nx.refl _ _)))
    rcases ho with ho | ho
    · simp only [execOp, ho, hx, hy, hz, Sem.run_bind, hr, Result.andThen_ok]
      rfl
    · simp only [execOp, ho, hx, hy, hz, Sem.run_bind, hr, Result.andThen_ok]
      rfl
  rcases MpJ.find he k with ⟨h1, h2⟩ | ⟨j, e, p, h1, h2, h3, h4, h5⟩
  · refine key (es.push { key := i64 k, val := u8 b, born := c }) (c + 1) ?_ ?_
    · unfold mputJ
      rw [if_neg h2]
      simp only [Array.toList_push, List.map_append, he, List.map_cons, List.map_nil]
    · simp [Instr.mapUpdate, run_underlying ht, MapKept.run_getObj_map hb, MapKept.run_checkKey hkt (isKey_i64 k), MapKept.run_findKey hkt h1, MapKept.run_setObj_map _ hb, Result.andThen, World.putObj]
  · subst h5
    refine key (es.modify j fun e => { e with key := i64 p.1, val := u8 b }) c ?_ ?_
    · unfold mputJ
      rw [if_pos (List.mem_map.2 ⟨p, List.mem_of_getElem? h4, rfl⟩), mput_atJ hn h4]
      apply List.ext_getElem?
      intro i
      have hi := congrArg (·[i]?) he
      simp only [List.getElem?_map, Array.getElem?_toList] at hi
      simp only [List.getElem?_map, Array.getElem?_toList, Array.getElem?_modify, List.getElem?_set]
      by_cases hij : j = i
      · subst hij
        obtain ⟨hl, _⟩ := List.getElem?_eq_some_iff.1 h4
        simp [h2, hl]
      · simp only [if_neg hij]; exact hi
    · simp [Instr.mapUpdate, run_underlying ht, MapKept.run_getObj_map hb, MapKept.run_checkKey hkt (isKey_i64 p.1), MapKept.run_findKey hkt h1, h2, h3, MapKept.run_keyThatStays (isKey_i64 p.1), MapKept.run_setObj_map _ hb, Result.andThen, World.putObj]
theorem q_lenMapJ (ho : o.op = .call ⟨.builtin .len, #[x], #[t]⟩) (ht : P.underlying t = some (.map kt et)) (hx : ev f x = mp g) (h : MpJ w g m) : Qt P o f w (i64 (m.length : Int)) := by
  intro w' hE
  obtain ⟨es, c, hb, he, _⟩ := h.ext hE
  have hl : es.size = m.length := by have := congrArg List.length he; simpa using this
  rw [exec_builtin _ ho]
  simp [builtin, Builtin.len_, run_underlying ht, hx, MapKept.run_getObj_map hb, Result.andThen, goInt, hl, i64]
theorem q_lookupJ (ho : o.op = .lookup t x y false) (ht : P.underlying t = some (.map kt et)) (hkt : P.underlying kt = some (.int .i64)) (hz : ∀ w, (zeroValue et).run P w = .ok (u8 0) w) (hx : ev f x = mp g) (hy : ev f y = i64 k) (h : MpJ w g m) : Qt P o f w (u8 (mgetJ m k)) := by
  intro w' hE
  obtain ⟨es, c, hb, he, hn⟩ := h.ext hE
  rcases MpJ.find he k with ⟨h1, h2⟩ | ⟨j, e, p, h1, h2, h3, h4, h5⟩
  · have : mgetJ m k = 0 := by
      unfold mgetJ
      rw [List.find?_eq_none.2 (fun q hq e => h2 (List.mem_map.2 ⟨q, hq, by simpa using e⟩))]; rfl
    rw [this]
    simp [execOp, ho, hx, hy, Instr.lookup, run_underlying ht, MapKept.run_getObj_map hb, MapKept.run_checkKey hkt (isKey_i64 k), MapKept.run_findKey hkt h1, hz, Result.andThen]
  · subst h5
    have : mgetJ m p.1 = p.2 := by
      unfold mgetJ
      have hex : ∃ q ∈ m, (q.1 == p.1) = true := ⟨p, List.mem_of_getElem? h4, by simp⟩
      cases hf : m.find? (fun q => q.1 == p.1) with
      | none => exact absurd hf (by rw [List.find?_eq_none]; intro hh; exact hh p (List.mem_of_getElem? h4) (by simp))
      | some q =>
        have hq1 : q.1 = p.1 := by simpa using List.find?_some hf
        have hqm := List.mem_of_find?_eq_some hf
        obtain ⟨i, hi⟩ := List.getElem?_of_mem hqm
        have : q = p := by
          by_cases hij : i = j
          · subst hij; rw [h4] at hi; exact (Option.some.inj hi).symm
          · exact absurd (nd_injJ hn hi h4 hq1) hij
        rw [this]; rfl
    rw [this]
    simp [execOp, ho, hx, hy, Instr.lookup, run_underlying ht, MapKept.run_getObj_map hb, MapKept.run_checkKey hkt (isKey_i64 p.1), MapKept.run_findKey hkt h1, Result.andThen]
end
end Gk
