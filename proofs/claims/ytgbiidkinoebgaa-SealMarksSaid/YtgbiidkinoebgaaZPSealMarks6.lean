/- Parts Fl, G31, Pu, H31, Pv, one behind the other. What is proved: said at the head of each part. No condition beside those said there. -/
import Derived.Test.YtgbiidkinoebgaaRows
import Derived.Orders
import Derived.Deep.Draws
import Derived.Laws.World
import Derived.KernelRfl
import Derived.OrdersIn
import Derived.TacticsIn
import Derived.RangeFuncCalls
import Derived.Deep.LoopGhost
import Derived.Tactics
import Derived.Sort.LoopGhostIn
import Derived.RangeFuncLeaves
import Derived.RangeFuncNested
import Derived.RangeFuncRecord
import Derived.Laws.Sem
import Derived.OwnWalk
import Derived.RangeFuncWrites
import Derived.Laws.IdiomCopy
import Derived.WalkKit
import Derived.ProofKit
import Derived.OpenShut
import Derived.ChangeOld
import Derived.Below
import Derived.Test.YtgbiidkinoebgaaProg
import Derived.MapKept
import Derived.Lib.AppendZerosOnto
import Derived.Laws.CopyRow
import Derived.Laws.Cells
import Derived.Lib.SlBytesConst
import Derived.Lib.MakeNoZero
import Derived.Laws.Externs
import Derived.Test.YtgbiidkinoebgaaZPSealMarks1
import Derived.Test.YtgbiidkinoebgaaZPSealMarks2
import Derived.Test.YtgbiidkinoebgaaZPSealMarks3
import Derived.Test.YtgbiidkinoebgaaZPSealMarks4
import Derived.Test.YtgbiidkinoebgaaZPSealMarks5
/- bytes.Repeat, of one byte, 64 times. No condition. -/



set_option linter.unusedVariables false
set_option linter.unusedSimpArgs false
namespace Gk
open Go Go.Proofs Go.RowKit
section
variable {P : Program} {o : Oper} {f : Nat → Value} {w : World} {L : List Value}
/-- copy to a slice of what is owned, of whatever room. -/
theorem stp_copyW {α : Type} {R : World → List Value → Value → α → Prop} (hR : Stab R) {d x : Operand} {t e : TypeId} {z v dv u : Value} {bytes : Nat} {l m : List α} {off : Int} (L1 L2 : List Value)
    (ho : o.op = .call ⟨.builtin .copy, #[d, x], #[t, t]⟩) (T : TyS P t e z bytes) (hd : ev f d = dv) (hx : ev f x = u) (h : OwK R w (L1 ++ v :: L2) e v l)
    {mx : Nat} (hmx : l.length ≤ mx) (hdv : dv = subW v off.toNat l.length mx) (h0 : 0 ≤ off) (hoff : off ≤ l.length)
    {Lu : List Value} (hu : SlK R w Lu u m) (hLu : ∀ u x, R w Lu u x → R w (L1 ++ v :: L2) u x) (h1 : ∀ w L u x, R w L u x → u.oneCell' = true)
    {K : Value → World → Prop} (hk : ∀ w', OwK R w' (L1 ++ v :: L2) e v (copyL l off m) → Gr w w' v → Lift w w' (L1 ++ v :: L2) (L1 ++ v :: L2) → K (i64 (min m.length (l.length - off.toNat) : Nat)) w') : Stp P o f w K := by
  obtain ⟨us, hown, hl, he⟩ := h
  obtain ⟨ns, ⟨p, cap, hp, hcap, hne⟩, hl', he0⟩ := hu
  have he' : ∀ i (h : i < ns.length) (h' : i < m.length), R w (L1 ++ v :: L2) ns[i] m[i] := fun i a b => hLu _ _ (he0 i a b)
  obtain ⟨i, hi, i1, i2, i3⟩ := info_parts T.info
  have hsz : (P.info? e).map (·.size) = some 1 := by rw [hi]; simp [i2]
  obtain ⟨k, rfl⟩ := Int.eq_ofNat_of_zero_le h0
  simp only [Int.toNat_natCast] at *
  have hkl : k ≤ us.length := by omega
  have hmin : Nat.min ns.length (us.length - k) = min m.length (l.length - k) := by rw [hl, hl']
  by_cases hz : Nat.min ns.length (us.length - k) = 0
  · have hrun : (Builtin.copy_ #[t, t] o.type #[dv, u]).run P w = .ok (goInt 0) w := by
      rcases hown with ⟨pv, rfl, rfl⟩ | ⟨g, cap', rfl, hc0, hown⟩
      · subst hdv; subst hp
        cases pv <;> exact run_copy_none (P := P) w t t o.type e _ _ _ _ _ _ T.sl hsz (by rw [← hl]; exact hz)
      · subst hdv; subst hp
        exact run_copy_none (P := P) w t t o.type e _ _ _ _ _ _ T.sl hsz (by rw [← hl]; exact hz)
    refine stp_of_run (v := goInt 0) (w' := w) (by rw [exec_builtin _ ho]; simp [builtin, hd, hx, hrun]) ?_
    have hk' := hk w ⟨us, hown, ?_, ?_⟩ (Gr.refl w _) (Lift.sub (fun _ h => h))
    · rw [show min m.length (l.length - k) = 0 by omega] at hk'
      exact hk'
    · have h2 : min m.length (l.length - k) = 0 := by omega
      simp only [copyL, Int.toNat_natCast, List.length_append, List.length_take, List.length_drop]; omega
    · have : copyL l (k : Int) m = l := by
        unfold copyL
        simp only [Int.toNat_natCast]
        have h2 : min m.length (l.length - k) = 0 := by omega
        rw [h2]
        rcases Nat.eq_zero_or_pos (l.length - k) with h3 | h3
        · rw [h3]; simp
        · have : m.length = 0 := by omega
          rw [List.eq_nil_of_length_eq_zero this]; simp
      rw [this]
      exact he
  · have hpos : 0 < Nat.min ns.length (us.length - k) := Nat.pos_of_ne_zero hz
    have hns0 : 0 < ns.length := by have := Nat.min_le_left ns.length (us.length - k); omega
    have hus0 : 0 < us.length - k := by have := Nat.min_le_right ns.length (us.length - k); omega
    obtain ⟨b, so, rfl, _, hr⟩ := hne (List.length_pos_iff.1 hns0)
    rcases hown with ⟨pv, rfl, rfl⟩ | ⟨g, cap', rfl, hc0, hown⟩
    · simp at hus0
    · obtain ⟨cur, hg, hc, hcm, hcs, htake⟩ := row_spec hown
      have hn : (ns.take (us.length - k)).length = Nat.min ns.length (us.length - k) := by simp; exact Nat.min_comm _ _
      have hadr : dv = .slice (some ⟨g, k, none⟩) (us.length - k) (mx - k) := by
        rw [hdv, ← hl]; simp only [subW]; rw [if_neg (by omega)]; simp [add_off]
      have hrun := run_copy_row (P := P) w t t o.type e g k (us.length - k) (mx - k) ⟨b, so, none⟩ ns.length cap cur e (ns.take (us.length - k)) T.sl hsz hg hn
        (fun j v hj => by
          obtain ⟨hj', rfl⟩ := List.getElem?_eq_some_iff.1 hj
          rw [add_off, hr j (by simp at hj'; omega)]; simp)
        (by rw [hn, hcs]; have := Nat.min_le_right ns.length (us.length - k); omega)
        (fun a ha => by
          obtain ⟨j, hj, rfl⟩ := List.getElem_of_mem ha
          simp only [List.getElem_take]
          exact h1 _ _ _ _ (he' j (by simp at hj; omega) (by simp at hj; omega)))
      generalize hw' : w.setRow g (cur.toList.take k ++ ns.take (us.length - k) ++ cur.toList.drop (k + (ns.take (us.length - k)).length)).toArray = w' at hrun
      have hgr : Gr w w' (.slice (some ⟨g, 0, none⟩) us.length cap') := Gr.of (by rw [oB_pos hc0]; rw [← hw']; exact ⟨rfl, rfl, rfl, by simp, fun j _ hj => setRow_other w g j _ (fun e => hj (by rw [e]))⟩)
      have hlift : Lift w w' (L1 ++ .slice (some ⟨g, 0, none⟩) us.length cap' :: L2) (L1 ++ .slice (some ⟨g, 0, none⟩) us.length cap' :: L2) := Lift.own L1 L2 hgr (Nx.refl _ _)
      have hnew : (us.take k ++ (ns.take (us.length - k) ++ us.drop (k + (ns.take (us.length - k)).length))).length = us.length := by
        simp; omega
      refine stp_of_run (v := goInt (ns.take (us.length - k)).length) (w' := w') (by rw [exec_builtin _ ho]; simp [builtin, hd, hx, hadr, hp, hrun]) ?_
      have hk' := hk w' ⟨us.take k ++ (ns.take (us.length - k) ++ us.drop (k + (ns.take (us.length - k)).length)), ?_, ?_, ?_⟩ hgr hlift
      · rw [← hmin, ← hn] at hk'; exact hk'
      · refine Ow.mk hnew.symm ⟨by simpa using hnew, .inr ⟨g, cap', _, rfl, Nat.zero_le _, by rw [← hw']; exact setRow_heap w g cur _ e _ hg, hc, hcm, ?_, ?_⟩⟩
        · simp only [List.size_toArray, List.length_append, List.length_take, List.length_drop, Array.length_toList, hcs]
          omega
        · have hl1 : (ns.take (us.length - k)).length ≤ us.length - k := by simp; omega
          simp only [Nat.mul_one] at htake ⊢
          rw [splice_take cur.toList _ us.length k (by omega) (by have h9 : cur.toList.length = cur.size := Array.length_toList; simp at hcs; omega), htake]
      · simp [copyL]; omega
      · have r1 : Rl (R w' (L1 ++ .slice (some ⟨g, 0, none⟩) us.length cap' :: L2)) us l := ⟨hl, fun i h h' => hR _ _ _ _ _ _ hlift (he i h h')⟩
        have r2 : Rl (R w' (L1 ++ .slice (some ⟨g, 0, none⟩) us.length cap' :: L2)) ns m := ⟨hl', fun i h h' => hR _ _ _ _ _ _ hlift (he' i h h')⟩
        have r3 := (r1.take k).append ((r2.take (us.length - k)).append (r1.drop (k + (ns.take (us.length - k)).length)))
        have e5 : min m.length (us.length - k) = (ns.take (us.length - k)).length := by simp [hl']; exact Nat.min_comm _ _
        have e4 : copyL l (k : Int) m = l.take k ++ (m.take (us.length - k) ++ l.drop (k + (ns.take (us.length - k)).length)) := by
          unfold copyL; simp only [Int.toNat_natCast, ← hl, e5]
        rw [e4]
        exact r3.2

end
def bytes_Repeat (b : List UInt8) (n : Int) : Option (List UInt8) := if b.length = 1 ∧ n = 64 then some (List.replicate 64 (b.getD 0 0)) else none
def rbody (s : Nat × List UInt8) : Option ((Nat × List UInt8) ⊕ Unit) := if s.1 < 6 then some (.inl (s.1 + 1, copyL s.2 ((2 ^ s.1 : Nat) : Int) (s.2.take (2 ^ s.1)))) else some (.inr ())
theorem rloop (s : Nat × List UInt8) (h : s.1 ≤ 6) : iterC rbody s = some () := by
  obtain ⟨x, hx, _⟩ := iterC_inv (body := rbody) (fun s => s.1 ≤ 6) (fun s => 6 - s.1) (fun _ => True) (by
    rintro ⟨k, l⟩ hk
    unfold rbody
    simp only at hk ⊢
    by_cases h6 : k < 6
    · left; rw [if_pos h6]; exact ⟨_, rfl, by simp only; omega, by simp only; omega⟩
    · right; rw [if_neg h6]; exact ⟨_, rfl, trivial⟩) s h
  exact hx
theorem rep_step {l : List UInt8} {x : UInt8} {k : Nat} (h : l.length = 64) (hk : k ≤ 5) (ht : l.take (2 ^ k) = List.replicate (2 ^ k) x) :
    (copyL l ((2 ^ k : Nat) : Int) (l.take (2 ^ k))).length = 64 ∧ (copyL l ((2 ^ k : Nat) : Int) (l.take (2 ^ k))).take (2 ^ (k + 1)) = List.replicate (2 ^ (k + 1)) x := by
  have hp : 2 ^ (k + 1) = 2 ^ k + 2 ^ k := by rw [Nat.pow_succ]; omega
  have h32 : 2 ^ k ≤ 32 := by
    have := Nat.pow_le_pow_right (show 0 < 2 by decide) hk
    simpa using this
  unfold copyL
  rw [ht]
  simp only [Int.toNat_natCast, List.length_replicate]
  rw [ht, List.take_of_length_le (by simp; omega)]
  constructor
  · simp only [List.length_append, List.length_replicate, List.length_drop]; omega
  · rw [hp, ← List.append_assoc, List.take_append_of_le_length (by simp), List.replicate_append_replicate, List.take_of_length_le (by simp)]
set_option maxRecDepth 100000 in
set_option maxHeartbeats 8000000 in
theorem bytes_Repeat_calls (a0b : List UInt8) (a1count : Int) (p0 : Value) (r : List UInt8) (w0 : World) (hp0 : By w0 [] p0 a0b) (H : bytes_Repeat a0b a1count = some r) :
    Calls Try.prog 72 [p0, (i64 a1count)].toArray w0 (fun e w' => ∃ u0 : Value, e = .returned u0 ∧ Ext w0 w' ∧ Nw w0 u0 ∧ By w' [] u0 r) := by
  have hE : Ext w0 w0 := Ext.refl w0
  unfold bytes_Repeat at H
  by_cases hc : a0b.length = 1 ∧ a1count = 64
  case neg => rw [if_neg hc] at H; cases H
  rw [if_pos hc] at H
  obtain ⟨hlen, h64⟩ := hc
  subst h64
  obtain ⟨x, rfl⟩ : ∃ x, a0b = [x] := by
    match a0b, hlen with
    | [x], _ => exact ⟨x, rfl⟩
  obtain rfl := Option.some.inj H
  have hmul : math_bits_Mul (UInt64.ofInt ((([x] : List UInt8).length : Int))) (UInt64.ofInt 64) = some ((0 : UInt64), (64 : UInt64)) := by kernel_rfl
  have hw64 : i64 (wI ((64 : UInt64).toNat : Int)) = i64 64 := by rw [show wI ((64 : UInt64).toNat : Int) = 64 by decide]
  refine calls_W (n := 77) Try.func72 rfl rfl rfl ?_
  refine W_seq ?_
  refine W_reg (by kernel_rfl) ?_
  refine wla rfl rfl (q_assign (v := (.slice none 0 0)) rfl rfl) ?_
  refine wl_nil ?_
  refine W_th ?_
  refine W_seq ?_
  refine W_seq ?_
  refine W_reg (by kernel_rfl) ?_
  refine wla rfl rfl (q_move (v := (i64 64)) rfl rfl) ?_
  refine wla rfl rfl (q_eqI rfl rfl rfl) ?_
  refine wl_nil ?_
  refine W_th ?_
  refine W_cond _ rfl rfl (fun hb1 => absurd (of_decide_eq_true hb1) (by decide)) (fun hb1 => ?_)
  refine W_skip ?_
  refine W_th ?_
  refine W_seq ?_
  refine W_seq ?_
  refine W_reg (by kernel_rfl) ?_
  refine wla rfl rfl (q_move (v := (i64 64)) rfl rfl) ?_
  refine wla rfl rfl (q_ltI rfl rfl rfl) ?_
  refine wl_nil ?_
  refine W_th ?_
  refine W_cond _ rfl rfl (fun hb1 => absurd (of_decide_eq_true hb1) (by decide)) (fun hb1 => ?_)
  refine W_skip ?_
  refine W_th ?_
  refine W_seq ?_
  refine W_reg (by kernel_rfl) ?_
  refine wla rfl rfl (q_move (v := p0) rfl rfl) ?_
  refine wla rfl rfl (q_len rfl T22.sl rfl (hp0.lift (Lift.ext hE _))) ?_
  refine wla rfl rfl (q_cvt64I rfl rfl rfl rfl) ?_
  refine wla rfl rfl (q_move (v := (i64 64)) rfl rfl) ?_
  refine wla rfl rfl (q_cvt64I rfl rfl rfl rfl) ?_
  refine wls rfl rfl (stp_call (vs := [(u64 ((UInt64.ofInt ((([x] : List UInt8).length : Int))))), (u64 ((UInt64.ofInt 64)))]) Try.func82 rfl rfl rfl (ar2 rfl rfl) (math_bits_Mul_calls (UInt64.ofInt ((([x] : List UInt8).length : Int))) (UInt64.ofInt 64)  _ _  hmul) ?_)
  rintro _ w6 ⟨rfl, x6⟩
  refine ⟨_, rfl, ?_⟩
  have e7 := hE.trans x6
  refine wla rfl rfl (q_move (v := (.tuple #[(u64 0), (u64 64)])) rfl rfl) ?_
  refine wla rfl rfl (q_extract rfl rfl rfl) ?_
  refine wla rfl rfl (q_extract rfl rfl rfl) ?_
  refine wla rfl rfl (q_assign (v := (u64 0)) rfl rfl) ?_
  refine wla rfl rfl (q_assign (v := (u64 64)) rfl rfl) ?_
  refine wl_nil ?_
  refine W_th ?_
  refine W_seq ?_
  refine W_seq ?_
  refine W_reg (by kernel_rfl) ?_
  refine wla rfl rfl (q_move (v := (u64 0)) rfl rfl) ?_
  refine wla rfl rfl (q_gt64 rfl rfl (cst64 (0 : UInt64) rfl)) ?_
  refine wlb rfl rfl (q_move (v := (.bool ((decide ((0 : UInt64) < (0 : UInt64)))))) rfl rfl) (fun hb8 => absurd (of_decide_eq_true hb8) (by decide)) (fun hb8 => ?_)
  refine wla rfl rfl (q_move (v := (u64 64)) rfl rfl) ?_
  refine wla rfl rfl (q_gt64 rfl rfl (cst64 (9223372036854775807 : UInt64) rfl)) ?_
  refine wla rfl rfl (q_pick_f (v := (.bool ((decide ((9223372036854775807 : UInt64) < (64 : UInt64)))))) rfl rfl rfl) ?_
  refine wl_nil ?_
  refine W_th ?_
  refine W_cond _ rfl rfl (fun hb9 => absurd (of_decide_eq_true hb9) (by decide)) (fun hb9 => ?_)
  refine W_skip ?_
  refine W_th ?_
  refine W_seq ?_
  refine W_reg (by kernel_rfl) ?_
  refine wla rfl rfl (q_move (v := (u64 64)) rfl rfl) ?_
  refine wla rfl rfl (q_cvtI64 rfl rfl rfl rfl) ?_
  refine wla rfl rfl (q_assign (v := (i64 64)) rfl hw64) ?_
  refine wl_nil ?_
  refine W_th ?_
  refine W_seq ?_
  refine W_seq ?_
  refine W_reg (by kernel_rfl) ?_
  refine wla rfl rfl (q_move (v := p0) rfl rfl) ?_
  refine wla rfl rfl (q_len rfl T22.sl rfl (hp0.lift (Lift.ext e7 _))) ?_
  refine wla rfl rfl (q_eqI rfl rfl rfl) ?_
  refine wl_nil ?_
  refine W_th ?_
  refine W_cond _ rfl rfl (fun hb9 => absurd (of_decide_eq_true hb9) (by simp)) (fun hb9 => ?_)
  refine W_skip ?_
  refine W_th ?_
  refine W_seq ?_
  refine W_reg (by kernel_rfl) ?_
  refine wla rfl rfl (q_move (v := (i64 64)) rfl rfl) ?_
  refine wla rfl rfl (q_assign (v := (i64 64)) rfl rfl) ?_
  refine wl_nil ?_
  refine W_th ?_
  refine W_seq ?_
  refine W_seq ?_
  refine W_reg (by kernel_rfl) ?_
  refine wla rfl rfl (q_move (v := (i64 64)) rfl rfl) ?_
  refine wla rfl rfl (q_gtI rfl rfl rfl) ?_
  refine wl_nil ?_
  refine W_th ?_
  refine W_cond _ rfl rfl (fun hb14 => absurd (of_decide_eq_true hb14) (by decide)) (fun hb14 => ?_)
  refine W_skip ?_
  refine W_th ?_
  refine W_seq ?_
  refine W_reg (by kernel_rfl) ?_
  refine wla rfl rfl (q_move (v := (i64 64)) rfl rfl) ?_
  refine wls rfl rfl (stp_noZero (L := []) (ps := #[3]) (t := 22) (fn := Try.f83) Try.func83 rfl rfl rfl (by kernel_rfl) rfl T22 rfl ⟨by decide, by decide⟩ ?_)
  intro j hj v w1 o1 n1 g1 l1
  have x1 := grown_ext g1
  have nv := Nw.ext e7 n1
  have e8 := e7.trans x1
  have hj' : j.length = 64 := by omega
  have hs64 : ∀ l : List UInt8, l.length = 64 → subL3 l 0 64 64 = some l := by
    intro l hl
    unfold subL3
    rw [if_pos ⟨by omega, by omega, by omega, by omega⟩]
    simp only [show (64 : Int).toNat = 64 from rfl, show (0 : Int).toNat = 0 from rfl]
    rw [List.take_of_length_le (by omega)]; rfl
  refine wla rfl rfl (q_move (v := (i64 64)) rfl rfl) ?_
  refine wla rfl rfl (q_move (v := (i64 64)) rfl rfl) ?_
  refine wla rfl rfl (q_slice3 (a := 0) (b := 64) (c := 64) rfl T22 rfl (o1.rd (Sc.stab _)) rfl rfl rfl (hs64 j hj')) ?_
  refine wla rfl rfl (q_assign (v := (subW v 0 64 64)) rfl rfl) ?_
  refine wl_nil ?_
  refine W_th ?_
  refine W_seq ?_
  refine W_reg (by kernel_rfl) ?_
  refine wla rfl rfl (q_move (v := (subW v 0 64 64)) rfl rfl) ?_
  refine wla rfl rfl (q_move (v := p0) rfl rfl) ?_
  refine wls rfl rfl (stp_copyW (R := (Sc u8)) (off := 0) (dv := (subW v 0 64 64)) (u := p0) (v := v) (mx := 64) (Sc.stab _) [] [] rfl T22 rfl rfl o1 (by omega) (by rw [hj']; rfl) (by decide) (Int.natCast_nonneg _) (hp0.lift (Lift.ext e8 _)) (fun _ _ h => h) oc_u8 ?_)
  intro w2 o2 g2 l2
  have e9 := e8.grown g2 nv
  have hm1 : (i64 ((min ([x] : List UInt8).length (j.length - (0 : Int).toNat) : Nat) : Int)) = i64 1 := by rw [hj']; rfl
  refine wla rfl rfl (q_assign (v := (i64 1)) rfl hm1) ?_
  refine wl_nil ?_
  refine W_th ?_
  refine W_seq ?_
  have hl0 : (copyL j 0 [x]).length = 64 := by unfold copyL; simp; omega
  have ht0 : (copyL j 0 [x]).take 1 = [x] := by unfold copyL; rw [hj']; simp
  refine W_mid (fun f w => f 9 = (subW v 0 64 64) ∧ f 77 = undef ∧ Ext w0 w ∧ OwK (Sc u8) w [v] 5 v (List.replicate 64 x)) ?_ ?_
  · refine W_block ?_
    refine W_loop (fun s f w => s.1 ≤ 6 ∧ f 10 = (i64 ((2 ^ s.1 : Nat) : Int)) ∧ f 9 = (subW v 0 64 64) ∧ f 7 = (i64 64) ∧ f 8 = (i64 64) ∧ f 77 = undef ∧ Ext w0 w ∧ OwK (Sc u8) w [v] 5 v s.2 ∧ s.2.length = 64 ∧ s.2.take (2 ^ s.1) = List.replicate (2 ^ s.1) x) (rloop (0, copyL j 0 [x]) (Nat.zero_le _)) ?_ ?_
    · exact ⟨Nat.zero_le _, rfl, rfl, rfl, rfl, rfl, e9, o2, hl0, ht0⟩
    · rintro ⟨k, l⟩ _ _ w3 ⟨hk, s10, s9, s7, s8, sm, hE3, o3, hl, ht⟩ H1 hr1
      simp only at hk s10 o3 hl ht
      refine W_seq ?_
      refine W_seq ?_
      refine W_reg (by kernel_rfl) ?_
      refine wla rfl rfl (q_move (v := (i64 ((2 ^ k : Nat) : Int))) rfl s10) ?_
      refine wla rfl rfl (q_move (v := (i64 64)) rfl s7) ?_
      refine wla rfl rfl (q_ltI rfl rfl rfl) ?_
      refine wl_nil ?_
      refine W_th ?_
      refine W_cond _ rfl rfl (fun hb3 => ?_) (fun hb3 => ?_)
      · have hlt := of_decide_eq_true hb3
        have hk5 : k < 6 := by
          rcases Nat.lt_or_ge k 6 with h | h
          · exact h
          · have : k = 6 := by omega
            subst this; exact absurd hlt (by decide)
        have hp2 : 2 ^ k ≤ 32 := by
          have := Nat.pow_le_pow_right (show 0 < 2 by decide) (show k ≤ 5 by omega)
          simpa using this
        have hp0' := Nat.two_pow_pos k
        have hbody : rbody (k, l) = some (.inl (k + 1, copyL l ((2 ^ k : Nat) : Int) (l.take (2 ^ k)))) := by unfold rbody; rw [if_pos hk5]
        rw [hbody] at H1
        obtain rfl := Option.some.inj H1
        refine W_skip ?_
        refine W_th ?_
        refine W_block ?_
        refine W_seq ?_
        refine W_reg (by kernel_rfl) ?_
        refine wla rfl rfl (q_move (v := (i64 ((2 ^ k : Nat) : Int))) rfl s10) ?_
        refine wla rfl rfl (q_move (v := (i64 64)) rfl s8) ?_
        refine wla rfl rfl (q_minI rfl rfl rfl) ?_
        have hmin : (if (64 : Int) < ((2 ^ k : Nat) : Int) then (64 : Int) else ((2 ^ k : Nat) : Int)) = ((2 ^ k : Nat) : Int) := if_neg (by omega)
        refine wla rfl rfl (q_assign (v := (i64 ((2 ^ k : Nat) : Int))) rfl (congrArg i64 hmin)) ?_
        refine wl_nil ?_
        refine W_th ?_
        refine W_draw [] [(0, 0), (1, 0), (2, 0), (3, 0), (4, 0), (5, 0), (6, 0), (7, 2), (8, 0), (9, 0)] mixed (by kernel_rfl) (by kernel_rfl) (by kernel_rfl) (by kernel_rfl) ?_
        have xd := Ext.drew w3
        replace o3 := o3.ext (Sc.stab _) xd
        have hE4 := hE3.trans xd
        have c3 := SlK.cut3 (o3.rd (Sc.stab _)) (hs64 l hl)
        have cs : subL l 0 ((2 ^ k : Nat) : Int) = some (l.take (2 ^ k)) := by
          have := subL_some.2 ⟨⟨show (0 : Int) ≤ 0 by decide, show (0 : Int) ≤ ((2 ^ k : Nat) : Int) by omega, show ((2 ^ k : Nat) : Int) ≤ (l.length : Int) by omega⟩, (rfl : (l.take ((2 ^ k : Nat) : Int).toNat).drop (0 : Int).toNat = _)⟩
          exact this
        have cd : subL l ((2 ^ k : Nat) : Int) (l.length : Int) = some (l.drop (2 ^ k)) := by
          have := subL_some.2 ⟨⟨show (0 : Int) ≤ ((2 ^ k : Nat) : Int) by omega, show ((2 ^ k : Nat) : Int) ≤ (l.length : Int) by omega, Int.le_refl _⟩, (rfl : (l.take ((l.length : Nat) : Int).toNat).drop ((2 ^ k : Nat) : Int).toNat = _)⟩
          rw [show ((l.length : Nat) : Int).toNat = l.length from rfl, List.take_length] at this
          exact this
        refine wsa rfl rfl rfl (q_move (v := (i64 ((2 ^ k : Nat) : Int))) rfl s10) ?_
        refine wsa rfl rfl rfl (q_move (v := (subW v 0 64 64)) rfl s9) ?_
        refine wsa rfl rfl rfl (q_move (v := (i64 ((2 ^ k : Nat) : Int))) rfl s10) ?_
        refine wsa rfl rfl rfl (q_slice (a := ((2 ^ k : Nat) : Int)) (b := (l.length : Int)) rfl T22 rfl c3 rfl rfl cd) ?_
        refine wsa rfl rfl rfl (q_move (v := (subW v 0 64 64)) rfl s9) ?_
        refine wsa rfl rfl rfl (q_move (v := (i64 ((2 ^ k : Nat) : Int))) rfl rfl) ?_
        refine wsa rfl rfl rfl (q_slice (a := 0) (b := ((2 ^ k : Nat) : Int)) rfl T22 rfl c3 rfl rfl cs) ?_
        have hdv : subV (subW v 0 64 64) ((2 ^ k : Nat) : Int).toNat ((l.length : Nat) : Int).toNat = subW v ((2 ^ k : Nat) : Int).toNat l.length 64 := by
          obtain ⟨us, how, hul, _⟩ := o3
          rcases how with ⟨p, rfl, rfl⟩ | ⟨b, cap, rfl, _, _⟩
          · simp at hul; omega
          · simp only [Int.toNat_natCast, hl, subW, subV]
            rw [if_neg (by omega), if_neg (by omega), if_neg (by omega)]
            simp [Addr.add]
        have hc3 : By (World.drew w3) [] (subV (subW v 0 64 64) (0 : Int).toNat ((2 ^ k : Nat) : Int).toNat) (l.take (2 ^ k)) := SlK.cut c3 cs
        refine wsc rfl (by kernel_rfl) rfl rfl (stp_copyW (R := (Sc u8)) (off := ((2 ^ k : Nat) : Int)) (dv := subV (subW v 0 64 64) ((2 ^ k : Nat) : Int).toNat ((l.length : Nat) : Int).toNat) (u := subV (subW v 0 64 64) (0 : Int).toNat ((2 ^ k : Nat) : Int).toNat) (v := v) (mx := 64) (Sc.stab _) [] [] rfl T22 rfl rfl o3 (by omega) hdv (by omega) (by omega) hc3 (fun _ _ h => h) oc_u8 ?_)
        intro w4 o4 g4 l4
        have e10 := hE4.grown g4 nv
        have hcnt : (i64 ((min (l.take (2 ^ k)).length (l.length - ((2 ^ k : Nat) : Int).toNat) : Nat) : Int)) = i64 ((2 ^ k : Nat) : Int) := by
          congr 2; rw [List.length_take]; simp only [Int.toNat_natCast]; omega
        refine wsa rfl rfl rfl (q_addI rfl rfl hcnt) ?_
        have hadd : i64 (wI (((2 ^ k : Nat) : Int) + ((2 ^ k : Nat) : Int))) = i64 ((2 ^ (k + 1) : Nat) : Int) := by
          rw [wI_of (by omega) (by omega), Nat.pow_succ]; congr 1; omega
        refine wsa rfl rfl rfl (q_assign (v := (i64 ((2 ^ (k + 1) : Nat) : Int))) rfl hadd) ?_
        refine ws_nil ?_
        refine bk_n ?_
        obtain ⟨q1, q2⟩ := rep_step (x := x) hl (show k ≤ 5 by omega) ht
        exact ⟨_, rfl, by simp only; omega, rfl, s9, s7, s8, sm, e10, o4, q1, q2⟩
      · have hge := of_decide_eq_false hb3
        have hk6 : k = 6 := by
          rcases Nat.lt_or_ge k 6 with h | h
          · have := Nat.pow_le_pow_right (show 0 < 2 by decide) (show k ≤ 5 by omega)
            have h32 : 2 ^ k ≤ 32 := by simpa using this
            omega
          · omega
        subst hk6
        refine W_exit ?_
        refine th_x ?_
        refine bk_x ?_
        have hrep : l = List.replicate 64 x := by
          have h1 : l.take (2 ^ 6) = l := List.take_of_length_le (by simp; omega)
          rw [← h1]; exact ht
        rw [hrep] at o3
        exact ⟨s9, sm, hE3, o3⟩
  · rintro f5 w5 ⟨s9, sm, hE5, o5⟩
    refine W_th ?_
    refine W_seq ?_
    refine W_reg (by kernel_rfl) ?_
    refine wla rfl rfl (q_move (v := (subW v 0 64 64)) rfl s9) ?_
    refine wla rfl rfl (q_assign (v := (subW v 0 64 64)) rfl rfl) ?_
    refine wl_nil ?_
    refine W_th ?_
    refine W_ret ?_
    refine rt1 (subW v 0 64 64) rfl rfl rfl sm ?_
    refine ⟨subW v 0 64 64, rfl, hE5, ?_, SlK.cut3 (o5.rd (Sc.stab _)) (hs64 _ (by simp))⟩
    obtain ⟨us, how, hul, _⟩ := o1
    rcases how with ⟨p, rfl, rfl⟩ | ⟨b, cap, rfl, hc0, _⟩
    · simp at hul; omega
    · intro k' hk'
      have : Hs (.slice (some ⟨b, 0, none⟩) us.length cap) k' := by
        have h1 : Hs (.slice (some ⟨b, 0, none⟩) 64 64) k' := hk'
        rcases h1 with e | e
        · rw [oB_pos (by decide)] at e
          exact .inl (by rw [oB_pos hc0]; exact e)
        · exact absurd e (by simp)
      exact nv k' this
end Gk

/- Printed by gen.py: for each Go function a pure function, and that the Go code comes to it. No condition beside the equation that says what the pure function gives. -/




set_option linter.unusedVariables false
set_option linter.unusedSimpArgs false
namespace Gk
open Go Go.Proofs

/-! largesse/word.Xor -/
noncomputable def word_Xor (a0a : List UInt8) (a1b : List UInt8) : Option (List UInt8) :=
((makeL ((if (a1b.length : Int) < (a0a.length : Int) then (a1b.length : Int) else (a0a.length : Int))) (0 : UInt8)).bind fun c1 =>
((iterC (fun s4 : List UInt8 × Int =>
(if s4.2 < (c1.length : Int) then
((idx a0a s4.2).bind fun c9 =>
((idx a1b s4.2).bind fun c10 =>
((idx s4.1 s4.2).bind fun c11 => some (.inl ((s4.1.set (s4.2 : Int).toNat ((c9 ^^^ c10))), (wI (s4.2 + 1)))))))
else some (.inr s4.1))) (c1, 0)).bind fun x4 => some x4))
set_option maxRecDepth 100000 in
set_option maxHeartbeats 8000000 in
theorem word_Xor_calls (a0a : List UInt8) (a1b : List UInt8) (p0 : Value) (p1 : Value) (r : List UInt8) (w0 : World) (hp0 : By w0 [] p0 a0a) (hp1 : By w0 [] p1 a1b) (H : word_Xor a0a a1b = some r) :
    Calls Try.prog 41 [p0, p1].toArray w0 (fun e w' => ∃ u0 : Value, e = .returned u0 ∧ Ext w0 w' ∧ Nw w0 u0 ∧ OwK (Sc u8) w' [] 5 u0 r) := by
  have hE : Ext w0 w0 := Ext.refl w0
  unfold word_Xor at H
  refine calls_W (n := 32) Try.func41 rfl rfl rfl ?_
  refine W_seq ?_
  refine W_reg (by kernel_rfl) ?_
  refine wla rfl rfl (q_assign (v := (.slice none 0 0)) rfl rfl) ?_
  refine wl_nil ?_
  refine W_th ?_
  refine W_seq ?_
  refine W_reg (by kernel_rfl) ?_
  refine wla rfl rfl (q_move (v := p0) rfl rfl) ?_
  refine wla rfl rfl (q_len rfl T22.sl rfl (hp0.lift (Lift.ext hE _))) ?_
  refine wla rfl rfl (q_move (v := p1) rfl rfl) ?_
  refine wla rfl rfl (q_len rfl T22.sl rfl (hp1.lift (Lift.ext hE _))) ?_
  refine wla rfl rfl (q_minI rfl rfl rfl) ?_
  obtain ⟨c1, hc1, H⟩ := Option.bind_eq_some_iff.1 H
  refine wls rfl rfl (stp_make (L := []) (R := (Sc u8)) rfl T22 rfl rfl hc1 (fun _ _ => rfl) ?_)
  intro v1 w1 o1 n1 g1 l1
  have x1 := grown_ext g1
  have n3 := Nw.ext hE n1
  have e2 := hE.trans x1
  refine wla rfl rfl (q_assign (v := v1) rfl rfl) ?_
  refine wl_nil ?_
  refine W_th ?_
  refine W_seq ?_
  refine W_seq ?_
  refine W_reg (by kernel_rfl) ?_
  refine wla rfl rfl (q_move (v := v1) rfl rfl) ?_
  refine wla rfl rfl (q_len rfl T22.sl rfl (o1.rd (Sc.stab _))) ?_
  refine wla rfl rfl (q_move (v := (i64 0)) rfl rfl) ?_
  refine wl_nil ?_
  refine W_th ?_
  obtain ⟨x4, G4, H⟩ := Option.bind_eq_some_iff.1 H
  refine W_mid (fun f w => f 5 = v1 ∧ f 32 = undef ∧ Ext w0 w ∧ OwK (Sc u8) w [v1] 5 v1 x4 ∧ Nw w0 v1) ?_ ?_
  · refine W_block ?_
    refine W_loop (fun s4 f w => f 0 = p0 ∧ f 1 = p1 ∧ f 5 = v1 ∧ f 14 = (i64 ((c1.length : Int))) ∧ f 15 = (i64 s4.2) ∧ f 32 = undef ∧ Ext w0 w ∧ OwK (Sc u8) w [v1] 5 v1 s4.1 ∧ Nw w0 v1) G4 ?_ ?_
    · exact ⟨rfl, rfl, rfl, rfl, rfl, rfl, e2, o1, n3⟩
    · rintro s4 _ _ w5 ⟨s0_5, s1_5, s5_5, s14_5, s15_5, s32_5, hE5, o0_5, n0_5⟩ H4 hr4
      refine W_seq ?_
      refine W_reg (by kernel_rfl) ?_
      refine wla rfl rfl (q_ltI rfl s15_5 s14_5) ?_
      refine wl_nil ?_
      refine W_th ?_
      refine W_seq ?_
      refine W_cond _ rfl rfl (fun hb6 => ?_) (fun hb6 => ?_)
      · replace H4 := (if_pos (of_decide_eq_true hb6)).symm.trans H4
        refine W_skip ?_
        refine W_th ?_
        refine W_seq ?_
        refine W_block ?_
        refine W_seq ?_
        refine W_reg (by kernel_rfl) ?_
        refine wla rfl rfl (q_move (v := (i64 s4.2)) rfl s15_5) ?_
        refine wla rfl rfl (q_assign (v := (i64 s4.2)) rfl rfl) ?_
        refine wl_nil ?_
        refine W_th ?_
        refine W_draw [5, 9] [(0, 0), (1, 0), (2, 0), (3, 0), (4, 0), (5, 1), (6, 0), (7, 0), (8, 0), (9, 1), (10, 0), (11, 0), (12, 2)] mixed (by kernel_rfl) (by kernel_rfl) (by kernel_rfl) (by kernel_rfl) ?_
        have x7 := Ext.drew w5
        replace o0_5 := o0_5.extL (Sc.stab _) x7 (Lift.ext x7 _)
        have e8 := hE5.trans x7
        refine wsa rfl rfl rfl (q_move (v := v1) rfl s5_5) ?_
        refine wsa rfl rfl rfl (q_move (v := (i64 s4.2)) rfl rfl) ?_
        refine wsa rfl rfl rfl (q_move (v := p0) rfl s0_5) ?_
        refine wsa rfl rfl rfl (q_move (v := (i64 s4.2)) rfl rfl) ?_
        obtain ⟨c9, hc9, H4⟩ := Option.bind_eq_some_iff.1 H4
        refine wsa rfl rfl rfl (q_adr rfl T22 rfl rfl (hp0.lift (Lift.ext e8 _)) hc9) ?_
        refine wsq rfl rfl rfl (q_loadS rfl T22 rfl (hp0.lift (Lift.ext e8 _)) hc9) ?_
        refine wsa rfl rfl rfl (q_move (v := p1) rfl s1_5) ?_
        refine wsa rfl rfl rfl (q_move (v := (i64 s4.2)) rfl rfl) ?_
        obtain ⟨c10, hc10, H4⟩ := Option.bind_eq_some_iff.1 H4
        refine wsa rfl rfl rfl (q_adr rfl T22 rfl rfl (hp1.lift (Lift.ext e8 _)) hc10) ?_
        refine wsq rfl rfl rfl (q_loadS rfl T22 rfl (hp1.lift (Lift.ext e8 _)) hc10) ?_
        refine wsa rfl rfl rfl (q_xor8 rfl rfl rfl) ?_
        obtain ⟨c11, hc11, H4⟩ := Option.bind_eq_some_iff.1 H4
        refine wsa rfl rfl rfl (q_adr rfl T22 rfl rfl (o0_5.rd (Sc.stab _)) hc11) ?_
        refine wsn rfl (by kernel_rfl) rfl rfl (stp_store (R := (Sc u8)) (u := (u8 ((c9 ^^^ c10)))) (Sc.stab _) [] [] rfl T22 rfl rfl o0_5 (put_of ((c9 ^^^ c10)) hc11) rfl rfl ?_)
        intro w12 o12 g12 l12
        have e13 := e8.grown g12 n0_5
        refine ws_nil ?_
        refine bk_n ?_
        refine W_th ?_
        refine W_reg (by kernel_rfl) ?_
        refine wla rfl rfl (q_addI rfl s15_5 rfl) ?_
        refine wla rfl rfl (q_move (v := (i64 ((wI (s4.2 + 1))))) rfl rfl) ?_
        refine wl_nil ?_
        obtain rfl := Option.some.inj H4
        exact ⟨_, rfl, s0_5, s1_5, s5_5, s14_5, rfl, s32_5, e13, o12, n0_5⟩
      · replace H4 := (if_neg (of_decide_eq_false hb6)).symm.trans H4
        refine W_exit ?_
        refine th_x ?_
        obtain rfl := Option.some.inj H4
        obtain rfl := hr4 _ rfl
        refine th_x ?_
        refine bk_x ?_
        exact ⟨s5_5, s32_5, hE5, o0_5, n0_5⟩
  · rintro _ w15 ⟨s5_15, s32_15, hE15, o0_15, n0_15⟩
    refine W_th ?_
    refine W_seq ?_
    refine W_reg (by kernel_rfl) ?_
    refine wla rfl rfl (q_move (v := v1) rfl s5_15) ?_
    refine wla rfl rfl (q_assign (v := v1) rfl rfl) ?_
    refine wl_nil ?_
    refine W_th ?_
    refine W_ret ?_
    obtain rfl := Option.some.inj H
    refine rt1 v1 rfl rfl rfl s32_15 ?_
    exact ⟨v1, rfl, hE15, n0_15, (o0_15.weak (Sc.stab _) (fun _ _ => trivial))⟩

/-! largesse/seal.added -/
noncomputable def seal_added (a0key : List UInt8) (a1x : UInt8) : Option (List UInt8) :=
((bytes_Repeat ([a1x] : List UInt8) 64).bind fun r4 =>
((word_Xor a0key r4).bind fun r7 => some r7))
set_option maxRecDepth 100000 in
set_option maxHeartbeats 8000000 in
theorem seal_added_calls (a0key : List UInt8) (a1x : UInt8) (p0 : Value) (r : List UInt8) (w0 : World) (hp0 : By w0 [] p0 a0key) (H : seal_added a0key a1x = some r) :
    Calls Try.prog 50 [p0, (u8 a1x)].toArray w0 (fun e w' => ∃ u0 : Value, e = .returned u0 ∧ Ext w0 w' ∧ Nw w0 u0 ∧ By w' [] u0 r) := by
  have hE : Ext w0 w0 := Ext.refl w0
  unfold seal_added at H
  refine calls_W (n := 10) Try.func50 rfl rfl rfl ?_
  refine W_seq ?_
  refine W_reg (by kernel_rfl) ?_
  refine wla rfl rfl (q_assign (v := (.slice none 0 0)) rfl rfl) ?_
  refine wl_nil ?_
  refine W_th ?_
  refine W_seq ?_
  refine W_reg (by kernel_rfl) ?_
  refine wla rfl rfl (q_move (v := p0) rfl rfl) ?_
  refine wla rfl rfl (q_move (v := (u8 a1x)) rfl rfl) ?_
  refine wls rfl rfl (stp_lit (L := []) (R := (Sc u8)) [(u8 a1x)] ([a1x] : List UInt8) rfl T22 rfl (by exact ⟨rfl, rfl, trivial⟩) rfl (litC u8 (oneC_u8) (us := [(u8 a1x)]) (l := ([a1x] : List UInt8)) rfl) rfl (litS u8 (us := [(u8 a1x)]) (l := ([a1x] : List UInt8)) rfl) ?_)
  intro v1 w1 o1 n1 g1 l1
  have x1 := grown_ext g1
  have i1 : By w1 [] v1 (([a1x] : List UInt8)) := OwK.slk (Sc.stab _) _ o1 (fun k hk => (Old.nil _) k (n1 k hk)) (fun _ h => h.2)
  have n2 := Nw.ext hE n1
  have e3 := hE.trans x1
  obtain ⟨r4, hr4, H⟩ := Option.bind_eq_some_iff.1 H
  refine wls rfl rfl (stp_call (vs := [v1, (i64 64)]) Try.func72 rfl rfl rfl (ar2 rfl rfl) (bytes_Repeat_calls ([a1x] : List UInt8) 64 v1 r4 _ (i1.lift (Lift.sub (fun _ _ => trivial))) hr4) ?_)
  rintro _ w4 ⟨v4, rfl, x4, n4_0, o4_0⟩
  refine ⟨_, rfl, ?_⟩
  have n5 := Nw.ext e3 n4_0
  have i4_0 : By w4 [] v4 r4 := SlK.avail o4_0 _ (fun k hk => (Old.nil _) k (n4_0 k hk))
  replace i1 := i1.lift (Lift.ext x4 _)
  have e6 := e3.trans x4
  obtain ⟨r7, hr7, H⟩ := Option.bind_eq_some_iff.1 H
  refine wls rfl rfl (stp_call (vs := [p0, v4]) Try.func41 rfl rfl rfl (ar2 rfl rfl) (word_Xor_calls a0key r4 p0 v4 r7 _ (hp0.lift (Lift.ext e6 _)) (i4_0.lift (Lift.sub (fun _ _ => trivial))) hr7) ?_)
  rintro _ w7 ⟨v7, rfl, x7, n7_0, o7_0⟩
  refine ⟨_, rfl, ?_⟩
  have n8 := Nw.ext e6 n7_0
  have i7_0 : By w7 [] v7 r7 := OwK.slk (Sc.stab _) _ (OwK.scal o7_0 (v7 :: [])) (fun k hk => (Old.nil _) k (n7_0 k hk)) (fun _ h => h.2)
  replace i1 := i1.lift (Lift.ext x7 _)
  replace i4_0 := i4_0.lift (Lift.ext x7 _)
  have e9 := e6.trans x7
  refine wla rfl rfl (q_assign (v := v7) rfl rfl) ?_
  refine wl_nil ?_
  refine W_th ?_
  refine W_ret ?_
  obtain rfl := Option.some.inj H
  refine rt1 v7 rfl rfl rfl rfl ?_
  exact ⟨v7, rfl, e9, n8, (i7_0.lift (Lift.sub (fun _ _ => trivial)))⟩

/-! largesse/seal.Mark -/
noncomputable def seal_Mark (a0key : List UInt8) (a1parts : List (List UInt8)) : Option (List UInt8) :=
(((if 64 < (a0key.length : Int) then
((hash_Sum ([a0key] : List (List UInt8))).bind fun r5 => some r5)
else some a0key)).bind fun x1 =>
((slices_Clone_sbytebyte x1).bind fun r10 =>
((makeL ((wI (64 - (x1.length : Int)))) (0 : UInt8)).bind fun c14 =>
((appL r10 c14).bind fun c15 =>
((seal_added c15 (54 : UInt8)).bind fun r18 =>
((appL (([r18] : List (List UInt8))) a1parts).bind fun c24 =>
((seal_added c15 (92 : UInt8)).bind fun r28 =>
((hash_Sum c24).bind fun r30 =>
((hash_Sum ([r28, r30] : List (List UInt8))).bind fun r34 => some r34)))))))))
set_option maxRecDepth 100000 in
set_option maxHeartbeats 8000000 in
theorem seal_Mark_calls (a0key : List UInt8) (a1parts : List (List UInt8)) (p0 : Value) (p1 : Value) (r : List UInt8) (w0 : World) (hp0 : By w0 [] p0 a0key) (hp1 : Rw w0 [] p1 a1parts) (H : seal_Mark a0key a1parts = some r) :
    Calls Try.prog 27 [p0, p1].toArray w0 (fun e w' => ∃ u0 : Value, e = .returned u0 ∧ Ext w0 w' ∧ Nw w0 u0 ∧ OwK (Sc u8) w' [] 5 u0 r) := by
  have hE : Ext w0 w0 := Ext.refl w0
  unfold seal_Mark at H
  refine calls_W (n := 29) Try.func27 rfl rfl rfl ?_
  refine W_seq ?_
  refine W_reg (by kernel_rfl) ?_
  refine wla rfl rfl (q_assign (v := (.slice none 0 0)) rfl rfl) ?_
  refine wl_nil ?_
  refine W_th ?_
  refine W_seq ?_
  obtain ⟨x1, H1, H⟩ := Option.bind_eq_some_iff.1 H
  refine W_mid (fun f w => ∃ v0_39 : Value, f 0 = v0_39 ∧ f 1 = p1 ∧ f 29 = undef ∧ Ext w0 w ∧ By w [] v0_39 x1) ?_ ?_
  · refine W_seq ?_
    refine W_reg (by kernel_rfl) ?_
    refine wla rfl rfl (q_move (v := p0) rfl rfl) ?_
    refine wla rfl rfl (q_len rfl T22.sl rfl (hp0.lift (Lift.ext hE _))) ?_
    refine wla rfl rfl (q_gtI rfl rfl rfl) ?_
    refine wl_nil ?_
    refine W_th ?_
    refine W_cond _ rfl rfl (fun hb2 => ?_) (fun hb2 => ?_)
    · replace H1 := (if_pos (of_decide_eq_true hb2)).symm.trans H1
      refine W_reg (by kernel_rfl) ?_
      refine wla rfl rfl (q_move (v := p0) rfl rfl) ?_
      refine wls rfl rfl (stp_lit (L := []) (R := By) [p0] ([a0key] : List (List UInt8)) rfl T55 rfl (by exact ⟨rfl, rfl, trivial⟩) rfl (LitR.cells (R := By) (w := w0) (L := []) (l := ([a0key] : List (List UInt8))) (LitR.cons (hp0.lift (Lift.arg hE nv_nil)) LitR.nil) (fun u x h => cells_sl u x h)) rfl (LitR.all (R := By) (w := w0) (L := []) (l := ([a0key] : List (List UInt8))) (SlK.stab (Sc.stab _)) (LitR.cons (hp0.lift (Lift.arg hE nv_nil)) LitR.nil)) ?_)
      intro v3 w3 o3 n3 g3 l3
      have x3 := grown_ext g3
      have i3 : Rw w3 [] v3 (([a0key] : List (List UInt8))) := OwK.slk (SlK.stab (Sc.stab _)) _ o3 (fun k hk => (Old.nil _) k (n3 k hk)) (fun _ h => h.2)
      have e4 := hE.trans x3
      obtain ⟨r5, hr5, H1⟩ := Option.bind_eq_some_iff.1 H1
      refine wls rfl rfl (stp_call (vs := [v3]) Try.func45 rfl rfl rfl (ar1 rfl) (hash_Sum_calls ([a0key] : List (List UInt8)) v3 r5 _ (i3.lift (Lift.sub (fun _ _ => trivial))) hr5) ?_)
      rintro _ w5 ⟨v5, rfl, x5, n5_0, o5_0⟩
      refine ⟨_, rfl, ?_⟩
      have o5 : OwK (Sc u8) w5 (v5 :: []) 5 v5 r5 := OwK.scal o5_0 _
      replace i3 := i3.lift (Lift.call _ x5 n5_0)
      have n7 := Nw.ext e4 n5_0
      have e6 := e4.trans x5
      refine wla rfl rfl (q_assign (v := v5) rfl rfl) ?_
      refine wl_nil ?_
      obtain rfl := Option.some.inj H1
      have i8 : By w5 [] v5 r5 := OwK.slk (Sc.stab _) [] o5 (fun k hk => trivial) (show ∀ k, Av [v5] k → Av [] k from fun _ h => trivial)
      replace i3 := i3.lift (Lift.sub (show ∀ k, Av [v5] k → Av [] k from fun _ h => trivial))
      exact ⟨v5, rfl, rfl, rfl, e6, i8⟩
    · replace H1 := (if_neg (of_decide_eq_false hb2)).symm.trans H1
      refine W_skip ?_
      obtain rfl := Option.some.inj H1
      exact ⟨p0, rfl, rfl, rfl, hE, (hp0.lift (Lift.arg hE nv_nil))⟩
  · rintro _ w9 ⟨v0_9, s0_9, s1_9, s29_9, hE9, i0_9⟩
    refine W_th ?_
    refine W_seq ?_
    refine W_reg (by kernel_rfl) ?_
    refine wla rfl rfl (q_move (v := v0_9) rfl s0_9) ?_
    obtain ⟨r10, hr10, H⟩ := Option.bind_eq_some_iff.1 H
    refine wls rfl rfl (stp_call (vs := [v0_9]) Try.func49 rfl rfl rfl (ar1 rfl) (slices_Clone_sbytebyte_calls x1 v0_9 r10 _ (i0_9.lift (Lift.sub (fun _ _ => trivial))) hr10) ?_)
    rintro _ w10 ⟨v10, rfl, x10, n10_0, o10_0⟩
    refine ⟨_, rfl, ?_⟩
    have o10 : OwK (Sc u8) w10 (v10 :: []) 5 v10 r10 := OwK.scal o10_0 _
    replace i0_9 := i0_9.lift (Lift.call _ x10 n10_0)
    have n12 := Nw.ext hE9 n10_0
    have e11 := hE9.trans x10
    refine wla rfl rfl (q_move (v := v0_9) rfl s0_9) ?_
    refine wla rfl rfl (q_len rfl T22.sl rfl i0_9) ?_
    refine wla rfl rfl (q_subI rfl rfl rfl) ?_
    obtain ⟨c14, hc14, H⟩ := Option.bind_eq_some_iff.1 H
    obtain ⟨c15, hc15, H⟩ := Option.bind_eq_some_iff.1 H
    refine wls rfl rfl (stp_appz (R := (Sc u8)) (v := v10) (Sc.stab _) [] [] rfl T22 Try.underlying3 rfl rfl rfl o10 hc14 (fun _ _ => rfl) hc15 ?_)
    intro v14 w14 o14 g14 nx14 l14
    replace i0_9 := i0_9.lift l14
    have e16 := e11.grown g14 n12
    have n17 := Nw.nxt e11 n12 nx14
    refine wla rfl rfl (q_assign (v := v14) rfl rfl) ?_
    refine wl_nil ?_
    refine W_th ?_
    refine W_seq ?_
    refine W_reg (by kernel_rfl) ?_
    refine wla rfl rfl (q_move (v := v14) rfl rfl) ?_
    obtain ⟨r18, hr18, H⟩ := Option.bind_eq_some_iff.1 H
    refine wls rfl rfl (stp_call (vs := [v14, (u8 54)]) Try.func50 rfl rfl rfl (ar2 rfl (cst8 (54 : UInt8) rfl)) (seal_added_calls c15 (54 : UInt8) v14 r18 _ (o14.rd (Sc.stab _)) hr18) ?_)
    rintro _ w18 ⟨v18, rfl, x18, n18_0, o18_0⟩
    refine ⟨_, rfl, ?_⟩
    have i18_0 : By w18 [v14] v18 r18 := SlK.avail o18_0 _ (fun k hk => (Old.cons (Old.nil _) o14.lt) k (n18_0 k hk))
    replace i0_9 := i0_9.lift (Lift.ext x18 _)
    replace o14 := o14.extL (Sc.stab _) x18 (Lift.ext x18 _)
    have e19 := e16.trans x18
    refine wls rfl rfl (stp_lit (L := [v14]) (R := By) [v18] ([r18] : List (List UInt8)) rfl T55 rfl (by exact ⟨rfl, rfl, trivial⟩) rfl (LitR.cells (R := By) (w := w18) (L := [v14]) (l := ([r18] : List (List UInt8))) (LitR.cons i18_0 LitR.nil) (fun u x h => cells_sl u x h)) rfl (LitR.all (R := By) (w := w18) (L := [v14]) (l := ([r18] : List (List UInt8))) (SlK.stab (Sc.stab _)) (LitR.cons i18_0 LitR.nil)) ?_)
    intro v20 w20 o20 n20 g20 l20
    have x20 := grown_ext g20
    have q21 : Nq v14 v20 := o14.nq n20
    replace i0_9 := i0_9.lift (Lift.call _ x20 n20)
    replace i18_0 := i18_0.lift (Lift.call _ x20 n20)
    replace o14 := o14.extL (Sc.stab _) x20 (Lift.call _ x20 n20)
    have n23 := Nw.ext e19 n20
    have e22 := e19.trans x20
    refine wla rfl rfl (q_move (v := p1) rfl s1_9) ?_
    obtain ⟨c24, hc24, H⟩ := Option.bind_eq_some_iff.1 H
    refine wls rfl rfl (stp_append (R := By) (v := v20) (u := p1) (SlK.stab (Sc.stab _)) [] [v14] rfl T55 rfl rfl o20 (hp1.lift (Lift.arg e22 (nv_cons n23 (nv_cons n17 nv_nil)))) (fun _ _ h => h) hc24 oc_sl ?_)
    intro v24 w24 o24 g24 nx24 l24
    replace i0_9 := i0_9.lift l24
    replace i18_0 := i18_0.lift l24
    have q25 : Nq v14 v24 := o14.nxt q21 nx24
    replace o14 := o14.other (Sc.stab _) g24 q21 l24
    have e26 := e22.grown g24 n23
    have n27 := Nw.nxt e22 n23 nx24
    refine wla rfl rfl (q_assign (v := v24) rfl rfl) ?_
    refine wl_nil ?_
    refine W_th ?_
    refine W_seq ?_
    refine W_reg (by kernel_rfl) ?_
    refine wla rfl rfl (q_move (v := v14) rfl rfl) ?_
    obtain ⟨r28, hr28, H⟩ := Option.bind_eq_some_iff.1 H
    refine wls rfl rfl (stp_call (vs := [v14, (u8 92)]) Try.func50 rfl rfl rfl (ar2 rfl (cst8 (92 : UInt8) rfl)) (seal_added_calls c15 (92 : UInt8) v14 r28 _ (o14.rd (Sc.stab _)) hr28) ?_)
    rintro _ w28 ⟨v28, rfl, x28, n28_0, o28_0⟩
    refine ⟨_, rfl, ?_⟩
    have i28_0 : By w28 [v24, v14] v28 r28 := SlK.avail o28_0 _ (fun k hk => (Old.cons (Old.cons (Old.nil _) o14.lt) o24.lt) k (n28_0 k hk))
    replace i0_9 := i0_9.lift (Lift.ext x28 _)
    replace i18_0 := i18_0.lift (Lift.ext x28 _)
    replace o24 := o24.extL (SlK.stab (Sc.stab _)) x28 (Lift.ext x28 _)
    replace o14 := o14.extL (Sc.stab _) x28 (Lift.ext x28 _)
    have e29 := e26.trans x28
    refine wla rfl rfl (q_move (v := v24) rfl rfl) ?_
    obtain ⟨r30, hr30, H⟩ := Option.bind_eq_some_iff.1 H
    refine wls rfl rfl (stp_call (vs := [v24]) Try.func45 rfl rfl rfl (ar1 rfl) (hash_Sum_calls c24 v24 r30 _ (o24.rd (SlK.stab (Sc.stab _))) hr30) ?_)
    rintro _ w30 ⟨v30, rfl, x30, n30_0, o30_0⟩
    refine ⟨_, rfl, ?_⟩
    have i30_0 : By w30 [v24, v14] v30 r30 := OwK.slk (Sc.stab _) _ (OwK.scal o30_0 (v30 :: [v24, v14])) (fun k hk => (Old.cons (Old.cons (Old.nil _) o14.lt) o24.lt) k (n30_0 k hk)) (fun _ h => h.2)
    replace i0_9 := i0_9.lift (Lift.ext x30 _)
    replace i18_0 := i18_0.lift (Lift.ext x30 _)
    replace i28_0 := i28_0.lift (Lift.ext x30 _)
    replace o24 := o24.extL (SlK.stab (Sc.stab _)) x30 (Lift.ext x30 _)
    replace o14 := o14.extL (Sc.stab _) x30 (Lift.ext x30 _)
    have e31 := e29.trans x30
    refine wls rfl rfl (stp_lit (L := [v24, v14]) (R := By) [v28, v30] ([r28, r30] : List (List UInt8)) rfl T55 rfl (by exact ⟨rfl, rfl, rfl, rfl, trivial⟩) rfl (LitR.cells (R := By) (w := w30) (L := [v24, v14]) (l := ([r28, r30] : List (List UInt8))) (LitR.cons i28_0 (LitR.cons i30_0 LitR.nil)) (fun u x h => cells_sl u x h)) rfl (LitR.all (R := By) (w := w30) (L := [v24, v14]) (l := ([r28, r30] : List (List UInt8))) (SlK.stab (Sc.stab _)) (LitR.cons i28_0 (LitR.cons i30_0 LitR.nil))) ?_)
    intro v32 w32 o32 n32 g32 l32
    have x32 := grown_ext g32
    have i32 : Rw w32 [v24, v14] v32 (([r28, r30] : List (List UInt8))) := OwK.slk (SlK.stab (Sc.stab _)) _ o32 (fun k hk => (Old.cons (Old.cons (Old.nil _) o14.lt) o24.lt) k (n32 k hk)) (fun _ h => h.2)
    replace i0_9 := i0_9.lift (Lift.ext x32 _)
    replace i18_0 := i18_0.lift (Lift.ext x32 _)
    replace i28_0 := i28_0.lift (Lift.ext x32 _)
    replace i30_0 := i30_0.lift (Lift.ext x32 _)
    replace o24 := o24.extL (SlK.stab (Sc.stab _)) x32 (Lift.ext x32 _)
    replace o14 := o14.extL (Sc.stab _) x32 (Lift.ext x32 _)
    have e33 := e31.trans x32
    obtain ⟨r34, hr34, H⟩ := Option.bind_eq_some_iff.1 H
    refine wls rfl rfl (stp_call (vs := [v32]) Try.func45 rfl rfl rfl (ar1 rfl) (hash_Sum_calls ([r28, r30] : List (List UInt8)) v32 r34 _ (i32.lift (Lift.sub (fun _ _ => trivial))) hr34) ?_)
    rintro _ w34 ⟨v34, rfl, x34, n34_0, o34_0⟩
    refine ⟨_, rfl, ?_⟩
    have o34 : OwK (Sc u8) w34 (v34 :: [v24, v14]) 5 v34 r34 := OwK.scal o34_0 _
    have q35 : Nq v24 v34 := o24.nq n34_0
    have q36 : Nq v14 v34 := o14.nq n34_0
    replace i0_9 := i0_9.lift (Lift.call _ x34 n34_0)
    replace i18_0 := i18_0.lift (Lift.call _ x34 n34_0)
    replace i28_0 := i28_0.lift (Lift.call _ x34 n34_0)
    replace i30_0 := i30_0.lift (Lift.call _ x34 n34_0)
    replace i32 := i32.lift (Lift.call _ x34 n34_0)
    replace o24 := o24.extL (SlK.stab (Sc.stab _)) x34 (Lift.call _ x34 n34_0)
    replace o14 := o14.extL (Sc.stab _) x34 (Lift.call _ x34 n34_0)
    have n38 := Nw.ext e33 n34_0
    have e37 := e33.trans x34
    refine wla rfl rfl (q_assign (v := v34) rfl rfl) ?_
    refine wl_nil ?_
    refine W_th ?_
    refine W_ret ?_
    obtain rfl := Option.some.inj H
    refine rt1 v34 rfl rfl rfl s29_9 ?_
    exact ⟨v34, rfl, e37, n38, (o34.weak (Sc.stab _) (fun _ _ => trivial))⟩

/-! largesse/largesseref31.Mark -/
noncomputable def ref31_Mark (a0key : List UInt8) (a1b : List UInt8) : Option (List UInt8) :=
(((if 64 < (a0key.length : Int) then
((ref07_Sum a0key).bind fun r3 => some r3)
else some a0key)).bind fun x1 =>
((iterC (fun s13 : List UInt8 × List UInt8 × Int =>
(if s13.2.2 < 64 then
(((if s13.2.2 < (x1.length : Int) then
((idx x1 s13.2.2).bind fun c18 => some c18)
else some (0 : UInt8))).bind fun x16 =>
((appL s13.1 (([(x16 ^^^ (92 : UInt8))] : List UInt8))).bind fun c22 =>
((appL s13.2.1 (([(x16 ^^^ (54 : UInt8))] : List UInt8))).bind fun c28 => some (.inl (c22, c28, (wI (s13.2.2 + 1)))))))
else some (.inr (s13.1, s13.2.1)))) (([] : List UInt8), ([] : List UInt8), 0)).bind fun x13 =>
((appL x13.2 a1b).bind fun c35 =>
((ref07_Sum c35).bind fun r39 =>
((appL x13.1 r39).bind fun c41 =>
((ref07_Sum c41).bind fun r45 => some r45))))))
set_option maxRecDepth 100000 in
set_option maxHeartbeats 8000000 in
theorem ref31_Mark_calls (a0key : List UInt8) (a1b : List UInt8) (p0 : Value) (p1 : Value) (r : List UInt8) (w0 : World) (hp0 : By w0 [] p0 a0key) (hp1 : By w0 [] p1 a1b) (H : ref31_Mark a0key a1b = some r) :
    Calls Try.prog 28 [p0, p1].toArray w0 (fun e w' => ∃ u0 : Value, e = .returned u0 ∧ Ext w0 w' ∧ Nw w0 u0 ∧ OwK (Sc u8) w' [] 5 u0 r) := by
  have hE : Ext w0 w0 := Ext.refl w0
  unfold ref31_Mark at H
  refine calls_W (n := 45) Try.func28 rfl rfl rfl ?_
  refine W_seq ?_
  refine W_reg (by kernel_rfl) ?_
  refine wla rfl rfl (q_assign (v := (.slice none 0 0)) rfl rfl) ?_
  refine wl_nil ?_
  refine W_th ?_
  refine W_seq ?_
  obtain ⟨x1, H1, H⟩ := Option.bind_eq_some_iff.1 H
  refine W_mid (fun f w => ∃ v0_51 : Value, f 0 = v0_51 ∧ f 1 = p1 ∧ f 45 = undef ∧ Ext w0 w ∧ By w [] v0_51 x1) ?_ ?_
  · refine W_seq ?_
    refine W_reg (by kernel_rfl) ?_
    refine wla rfl rfl (q_move (v := p0) rfl rfl) ?_
    refine wla rfl rfl (q_len rfl T22.sl rfl (hp0.lift (Lift.ext hE _))) ?_
    refine wla rfl rfl (q_gtI rfl rfl rfl) ?_
    refine wl_nil ?_
    refine W_th ?_
    refine W_cond _ rfl rfl (fun hb2 => ?_) (fun hb2 => ?_)
    · replace H1 := (if_pos (of_decide_eq_true hb2)).symm.trans H1
      refine W_reg (by kernel_rfl) ?_
      refine wla rfl rfl (q_move (v := p0) rfl rfl) ?_
      obtain ⟨r3, hr3, H1⟩ := Option.bind_eq_some_iff.1 H1
      refine wls rfl rfl (stp_call (vs := [p0]) Try.func23 rfl rfl rfl (ar1 rfl) (ref07_Sum_calls a0key p0 r3 _ (hp0.lift (Lift.ext hE _)) hr3) ?_)
      rintro _ w3 ⟨v3, rfl, x3, n3_0, o3_0⟩
      refine ⟨_, rfl, ?_⟩
      have i3_0 : By w3 [] v3 r3 := OwK.slk (Sc.stab _) _ (OwK.scal o3_0 (v3 :: [])) (fun k hk => (Old.nil _) k (n3_0 k hk)) (fun _ h => h.2)
      have e4 := hE.trans x3
      refine wla rfl rfl (q_assign (v := v3) rfl rfl) ?_
      refine wl_nil ?_
      obtain rfl := Option.some.inj H1
      exact ⟨v3, rfl, rfl, rfl, e4, i3_0⟩
    · replace H1 := (if_neg (of_decide_eq_false hb2)).symm.trans H1
      refine W_skip ?_
      obtain rfl := Option.some.inj H1
      exact ⟨p0, rfl, rfl, rfl, hE, (hp0.lift (Lift.arg hE nv_nil))⟩
  · rintro _ w5 ⟨v0_5, s0_5, s1_5, s45_5, hE5, i0_5⟩
    refine W_th ?_
    refine W_seq ?_
    refine W_reg (by kernel_rfl) ?_
    refine wls rfl rfl (stp_lit (L := []) (R := (Sc u8)) [] ([] : List UInt8) rfl T22 rfl (by exact trivial) rfl (litC u8 (oneC_u8) (us := []) (l := ([] : List UInt8)) rfl) rfl (litS u8 (us := []) (l := ([] : List UInt8)) rfl) ?_)
    intro v6 w6 o6 n6 g6 l6
    have x6 := grown_ext g6
    replace i0_5 := i0_5.lift (Lift.call _ x6 n6)
    have n8 := Nw.ext hE5 n6
    have e7 := hE5.trans x6
    refine wls rfl rfl (stp_lit (L := [v6]) (R := (Sc u8)) [] ([] : List UInt8) rfl T22 rfl (by exact trivial) rfl (litC u8 (oneC_u8) (us := []) (l := ([] : List UInt8)) rfl) rfl (litS u8 (us := []) (l := ([] : List UInt8)) rfl) ?_)
    intro v9 w9 o9 n9 g9 l9
    have x9 := grown_ext g9
    have q10 : Nq v6 v9 := o6.nq n9
    replace i0_5 := i0_5.lift (Lift.call _ x9 n9)
    replace o6 := o6.extL (Sc.stab _) x9 (Lift.call _ x9 n9)
    have n12 := Nw.ext e7 n9
    have e11 := e7.trans x9
    refine wla rfl rfl (q_assign (v := v6) rfl rfl) ?_
    refine wla rfl rfl (q_assign (v := v9) rfl rfl) ?_
    refine wl_nil ?_
    refine W_th ?_
    refine W_seq ?_
    refine W_seq ?_
    refine W_reg (by kernel_rfl) ?_
    refine wla rfl rfl (q_assign (v := (i64 0)) rfl rfl) ?_
    refine wl_nil ?_
    refine W_th ?_
    obtain ⟨x13, G13, H⟩ := Option.bind_eq_some_iff.1 H
    refine W_mid (fun f w => ∃ v5_50 : Value, ∃ v6_50 : Value, f 1 = p1 ∧ f 5 = v5_50 ∧ f 6 = v6_50 ∧ f 45 = undef ∧ Ext w0 w ∧ OwK (Sc u8) w [v5_50, v6_50] 5 v5_50 x13.1 ∧ Nw w0 v5_50 ∧ OwK (Sc u8) w [v5_50, v6_50] 5 v6_50 x13.2 ∧ Nw w0 v6_50 ∧ Nq v5_50 v6_50) ?_ ?_
    · refine W_block ?_
      refine W_loop (fun s13 f w => ∃ v5_33 : Value, ∃ v6_33 : Value, f 0 = v0_5 ∧ f 1 = p1 ∧ f 5 = v5_33 ∧ f 6 = v6_33 ∧ f 7 = (i64 s13.2.2) ∧ f 45 = undef ∧ Ext w0 w ∧ OwK (Sc u8) w [v5_33, v6_33] 5 v5_33 s13.1 ∧ Nw w0 v5_33 ∧ OwK (Sc u8) w [v5_33, v6_33] 5 v6_33 s13.2.1 ∧ Nw w0 v6_33 ∧ Nq v5_33 v6_33 ∧ By w [v5_33, v6_33] v0_5 x1) G13 ?_ ?_
      · exact ⟨v6, v9, s0_5, s1_5, rfl, rfl, rfl, s45_5, e11, (o6.weak (Sc.stab _) (fun _ h => ⟨h.2.1, h.1, trivial⟩)), n8, (o9.weak (Sc.stab _) (fun _ h => ⟨h.2.1, h.1, trivial⟩)), n12, q10, (i0_5.lift (Lift.sub (fun _ h => ⟨h.2.1, h.1, trivial⟩)))⟩
      · rintro s13 _ _ w14 ⟨v5_14, v6_14, s0_14, s1_14, s5_14, s6_14, s7_14, s45_14, hE14, o0_14, n0_14, o1_14, n1_14, q0_1_14, i0_14⟩ H13 hr13
        refine W_seq ?_
        refine W_seq ?_
        refine W_reg (by kernel_rfl) ?_
        refine wla rfl rfl (q_move (v := (i64 s13.2.2)) rfl s7_14) ?_
        refine wla rfl rfl (q_ltI rfl rfl rfl) ?_
        refine wl_nil ?_
        refine W_th ?_
        refine W_cond _ rfl rfl (fun hb15 => ?_) (fun hb15 => ?_)
        · replace H13 := (if_pos (of_decide_eq_true hb15)).symm.trans H13
          refine W_skip ?_
          refine W_th ?_
          refine W_seq ?_
          refine W_block ?_
          refine W_seq ?_
          refine W_reg (by kernel_rfl) ?_
          refine wla rfl rfl (q_assign (v := (u8 0)) rfl (cst8 (0 : UInt8) rfl)) ?_
          refine wl_nil ?_
          refine W_th ?_
          refine W_seq ?_
          obtain ⟨x16, H16, H13⟩ := Option.bind_eq_some_iff.1 H13
          refine W_mid (fun f w => f 0 = v0_5 ∧ f 1 = p1 ∧ f 5 = v5_14 ∧ f 6 = v6_14 ∧ f 7 = (i64 s13.2.2) ∧ f 8 = (u8 x16) ∧ f 45 = undef ∧ Ext w0 w ∧ OwK (Sc u8) w [v5_14, v6_14] 5 v5_14 s13.1 ∧ Nw w0 v5_14 ∧ OwK (Sc u8) w [v5_14, v6_14] 5 v6_14 s13.2.1 ∧ Nw w0 v6_14 ∧ Nq v5_14 v6_14 ∧ By w [v5_14, v6_14] v0_5 x1) ?_ ?_
          · refine W_seq ?_
            refine W_reg (by kernel_rfl) ?_
            refine wla rfl rfl (q_move (v := (i64 s13.2.2)) rfl s7_14) ?_
            refine wla rfl rfl (q_move (v := v0_5) rfl s0_14) ?_
            refine wla rfl rfl (q_len rfl T22.sl rfl i0_14) ?_
            refine wla rfl rfl (q_ltI rfl rfl rfl) ?_
            refine wl_nil ?_
            refine W_th ?_
            refine W_cond _ rfl rfl (fun hb17 => ?_) (fun hb17 => ?_)
            · replace H16 := (if_pos (of_decide_eq_true hb17)).symm.trans H16
              refine W_reg (by kernel_rfl) ?_
              refine wla rfl rfl (q_move (v := v0_5) rfl s0_14) ?_
              refine wla rfl rfl (q_move (v := (i64 s13.2.2)) rfl s7_14) ?_
              obtain ⟨c18, hc18, H16⟩ := Option.bind_eq_some_iff.1 H16
              refine wla rfl rfl (q_adr rfl T22 rfl rfl i0_14 hc18) ?_
              refine wlq rfl rfl (q_loadS rfl T22 rfl i0_14 hc18) ?_
              refine wla rfl rfl (q_assign (v := (u8 c18)) rfl rfl) ?_
              refine wl_nil ?_
              obtain rfl := Option.some.inj H16
              exact ⟨s0_14, s1_14, s5_14, s6_14, s7_14, rfl, s45_14, hE14, o0_14, n0_14, o1_14, n1_14, q0_1_14, i0_14⟩
            · replace H16 := (if_neg (of_decide_eq_false hb17)).symm.trans H16
              refine W_skip ?_
              obtain rfl := Option.some.inj H16
              exact ⟨s0_14, s1_14, s5_14, s6_14, s7_14, rfl, s45_14, hE14, o0_14, n0_14, o1_14, n1_14, q0_1_14, i0_14⟩
          · rintro _ w19 ⟨s0_19, s1_19, s5_19, s6_19, s7_19, s8_19, s45_19, hE19, o0_19, n0_19, o1_19, n1_19, q0_1_19, i0_19⟩
            refine W_th ?_
            refine W_seq ?_
            refine W_reg (by kernel_rfl) ?_
            refine wla rfl rfl (q_move (v := v5_14) rfl s5_19) ?_
            refine wla rfl rfl (q_move (v := (u8 x16)) rfl s8_19) ?_
            refine wla rfl rfl (q_xor8 rfl rfl (cst8 (92 : UInt8) rfl)) ?_
            refine wls rfl rfl (stp_lit (L := [v5_14, v6_14]) (R := (Sc u8)) [(u8 ((x16 ^^^ (92 : UInt8))))] ([(x16 ^^^ (92 : UInt8))] : List UInt8) rfl T22 rfl (by exact ⟨rfl, rfl, trivial⟩) rfl (litC u8 (oneC_u8) (us := [(u8 ((x16 ^^^ (92 : UInt8))))]) (l := ([(x16 ^^^ (92 : UInt8))] : List UInt8)) rfl) rfl (litS u8 (us := [(u8 ((x16 ^^^ (92 : UInt8))))]) (l := ([(x16 ^^^ (92 : UInt8))] : List UInt8)) rfl) ?_)
            intro v20 w20 o20 n20 g20 l20
            have x20 := grown_ext g20
            have i20 : By w20 [v5_14, v6_14] v20 (([(x16 ^^^ (92 : UInt8))] : List UInt8)) := OwK.slk (Sc.stab _) _ o20 (fun k hk => (Old.cons (Old.cons (Old.nil _) o1_19.lt) o0_19.lt) k (n20 k hk)) (fun _ h => h.2)
            replace i0_19 := i0_19.lift (Lift.ext x20 _)
            replace o0_19 := o0_19.extL (Sc.stab _) x20 (Lift.ext x20 _)
            replace o1_19 := o1_19.extL (Sc.stab _) x20 (Lift.ext x20 _)
            have e21 := hE19.trans x20
            obtain ⟨c22, hc22, H13⟩ := Option.bind_eq_some_iff.1 H13
            refine wls rfl rfl (stp_append (R := (Sc u8)) (v := v5_14) (u := v20) (Sc.stab _) [] [v6_14] rfl T22 rfl rfl o0_19 i20 (fun _ _ h => h) hc22 oc_u8 ?_)
            intro v22 w22 o22 g22 nx22 l22
            replace i0_19 := i0_19.lift l22
            replace i20 := i20.lift l22
            have q23 : Nq v6_14 v22 := o1_19.nxt q0_1_19.symm nx22
            replace o1_19 := o1_19.other (Sc.stab _) g22 q0_1_19.symm l22
            have e24 := e21.grown g22 n0_19
            have n25 := Nw.nxt e21 n0_19 nx22
            refine wla rfl rfl (q_assign (v := v22) rfl rfl) ?_
            refine wl_nil ?_
            refine W_th ?_
            refine W_reg (by kernel_rfl) ?_
            refine wla rfl rfl (q_move (v := v6_14) rfl s6_19) ?_
            refine wla rfl rfl (q_move (v := (u8 x16)) rfl s8_19) ?_
            refine wla rfl rfl (q_xor8 rfl rfl (cst8 (54 : UInt8) rfl)) ?_
            refine wls rfl rfl (stp_lit (L := [v22, v6_14]) (R := (Sc u8)) [(u8 ((x16 ^^^ (54 : UInt8))))] ([(x16 ^^^ (54 : UInt8))] : List UInt8) rfl T22 rfl (by exact ⟨rfl, rfl, trivial⟩) rfl (litC u8 (oneC_u8) (us := [(u8 ((x16 ^^^ (54 : UInt8))))]) (l := ([(x16 ^^^ (54 : UInt8))] : List UInt8)) rfl) rfl (litS u8 (us := [(u8 ((x16 ^^^ (54 : UInt8))))]) (l := ([(x16 ^^^ (54 : UInt8))] : List UInt8)) rfl) ?_)
            intro v26 w26 o26 n26 g26 l26
            have x26 := grown_ext g26
            have i26 : By w26 [v22, v6_14] v26 (([(x16 ^^^ (54 : UInt8))] : List UInt8)) := OwK.slk (Sc.stab _) _ o26 (fun k hk => (Old.cons (Old.cons (Old.nil _) o1_19.lt) o22.lt) k (n26 k hk)) (fun _ h => h.2)
            replace i0_19 := i0_19.lift (Lift.ext x26 _)
            replace i20 := i20.lift (Lift.ext x26 _)
            replace o22 := o22.extL (Sc.stab _) x26 (Lift.ext x26 _)
            replace o1_19 := o1_19.extL (Sc.stab _) x26 (Lift.ext x26 _)
            have e27 := e24.trans x26
            obtain ⟨c28, hc28, H13⟩ := Option.bind_eq_some_iff.1 H13
            refine wls rfl rfl (stp_append (R := (Sc u8)) (v := v6_14) (u := v26) (Sc.stab _) [v22] [] rfl T22 rfl rfl o1_19 i26 (fun _ _ h => h) hc28 oc_u8 ?_)
            intro v28 w28 o28 g28 nx28 l28
            replace i0_19 := i0_19.lift l28
            replace i20 := i20.lift l28
            replace i26 := i26.lift l28
            have q29 : Nq v22 v28 := o22.nxt q23.symm nx28
            replace o22 := o22.other (Sc.stab _) g28 q23.symm l28
            have e30 := e27.grown g28 n1_19
            have n31 := Nw.nxt e27 n1_19 nx28
            refine wla rfl rfl (q_assign (v := v28) rfl rfl) ?_
            refine wl_nil ?_
            refine bk_n ?_
            refine W_th ?_
            refine W_reg (by kernel_rfl) ?_
            refine wla rfl rfl (q_move (v := (i64 s13.2.2)) rfl s7_19) ?_
            refine wla rfl rfl (q_addI rfl rfl rfl) ?_
            refine wla rfl rfl (q_assign (v := (i64 ((wI (s13.2.2 + 1))))) rfl rfl) ?_
            refine wl_nil ?_
            obtain rfl := Option.some.inj H13
            exact ⟨_, rfl, v22, v28, s0_19, s1_19, rfl, rfl, rfl, s45_19, e30, o22, n25, o28, n31, q29, i0_19⟩
        · replace H13 := (if_neg (of_decide_eq_false hb15)).symm.trans H13
          refine W_exit ?_
          refine th_x ?_
          obtain rfl := Option.some.inj H13
          obtain rfl := hr13 _ rfl
          refine th_x ?_
          refine bk_x ?_
          exact ⟨v5_14, v6_14, s1_14, s5_14, s6_14, s45_14, hE14, o0_14, n0_14, o1_14, n1_14, q0_1_14⟩
    · rintro _ w34 ⟨v5_34, v6_34, s1_34, s5_34, s6_34, s45_34, hE34, o0_34, n0_34, o1_34, n1_34, q0_1_34⟩
      refine W_th ?_
      refine W_seq ?_
      refine W_reg (by kernel_rfl) ?_
      refine wla rfl rfl (q_move (v := v5_34) rfl s5_34) ?_
      refine wla rfl rfl (q_move (v := v6_34) rfl s6_34) ?_
      refine wla rfl rfl (q_move (v := p1) rfl s1_34) ?_
      obtain ⟨c35, hc35, H⟩ := Option.bind_eq_some_iff.1 H
      refine wls rfl rfl (stp_append (R := (Sc u8)) (v := v6_34) (u := p1) (Sc.stab _) [v5_34] [] rfl T22 rfl rfl o1_34 (hp1.lift (Lift.ext hE34 _)) (fun _ _ h => h) hc35 oc_u8 ?_)
      intro v35 w35 o35 g35 nx35 l35
      have q36 : Nq v5_34 v35 := o0_34.nxt q0_1_34 nx35
      replace o0_34 := o0_34.other (Sc.stab _) g35 q0_1_34 l35
      have e37 := hE34.grown g35 n1_34
      have n38 := Nw.nxt hE34 n1_34 nx35
      obtain ⟨r39, hr39, H⟩ := Option.bind_eq_some_iff.1 H
      refine wls rfl rfl (stp_call (vs := [v35]) Try.func23 rfl rfl rfl (ar1 rfl) (ref07_Sum_calls c35 v35 r39 _ (o35.rd (Sc.stab _)) hr39) ?_)
      rintro _ w39 ⟨v39, rfl, x39, n39_0, o39_0⟩
      refine ⟨_, rfl, ?_⟩
      have i39_0 : By w39 [v5_34, v35] v39 r39 := OwK.slk (Sc.stab _) _ (OwK.scal o39_0 (v39 :: [v5_34, v35])) (fun k hk => (Old.cons (Old.cons (Old.nil _) o35.lt) o0_34.lt) k (n39_0 k hk)) (fun _ h => h.2)
      replace o0_34 := o0_34.extL (Sc.stab _) x39 (Lift.ext x39 _)
      replace o35 := o35.extL (Sc.stab _) x39 (Lift.ext x39 _)
      have e40 := e37.trans x39
      obtain ⟨c41, hc41, H⟩ := Option.bind_eq_some_iff.1 H
      refine wls rfl rfl (stp_append (R := (Sc u8)) (v := v5_34) (u := v39) (Sc.stab _) [] [v35] rfl T22 rfl rfl o0_34 i39_0 (fun _ _ h => h) hc41 oc_u8 ?_)
      intro v41 w41 o41 g41 nx41 l41
      replace i39_0 := i39_0.lift l41
      have q42 : Nq v35 v41 := o35.nxt q36.symm nx41
      replace o35 := o35.other (Sc.stab _) g41 q36.symm l41
      have e43 := e40.grown g41 n0_34
      have n44 := Nw.nxt e40 n0_34 nx41
      obtain ⟨r45, hr45, H⟩ := Option.bind_eq_some_iff.1 H
      refine wls rfl rfl (stp_call (vs := [v41]) Try.func23 rfl rfl rfl (ar1 rfl) (ref07_Sum_calls c41 v41 r45 _ (o41.rd (Sc.stab _)) hr45) ?_)
      rintro _ w45 ⟨v45, rfl, x45, n45_0, o45_0⟩
      refine ⟨_, rfl, ?_⟩
      have o45 : OwK (Sc u8) w45 (v45 :: [v41, v35]) 5 v45 r45 := OwK.scal o45_0 _
      have q46 : Nq v41 v45 := o41.nq n45_0
      have q47 : Nq v35 v45 := o35.nq n45_0
      replace i39_0 := i39_0.lift (Lift.call _ x45 n45_0)
      replace o41 := o41.extL (Sc.stab _) x45 (Lift.call _ x45 n45_0)
      replace o35 := o35.extL (Sc.stab _) x45 (Lift.call _ x45 n45_0)
      have n49 := Nw.ext e43 n45_0
      have e48 := e43.trans x45
      refine wla rfl rfl (q_assign (v := v45) rfl rfl) ?_
      refine wl_nil ?_
      refine W_th ?_
      refine W_ret ?_
      obtain rfl := Option.some.inj H
      refine rt1 v45 rfl rfl rfl s45_34 ?_
      exact ⟨v45, rfl, e48, n49, (o45.weak (Sc.stab _) (fun _ _ => trivial))⟩

end Gk

/- Chapter 31's marks, in plain Lean. No condition but lengths. -/


set_option linter.unusedSimpArgs false
set_option linter.unusedVariables false
namespace Gk
open Gf

def xorL (a b : List UInt8) : List UInt8 := (List.range (min a.length b.length)).map fun i => co a i ^^^ co b i
theorem word_Xor_eq (a b : List UInt8) (h : a.length ≤ most) : word_Xor a b = some (xorL a b) := by
  unfold word_Xor
  have hm := most_lt'
  rw [minI, Nat.min_comm, makeL_nat _ _ (by omega), Option.bind_some]
  have hl : (List.replicate (min b.length a.length) (0 : UInt8)).length = min b.length a.length := List.length_replicate
  refine bind_of (x := xorL a b) (iterC_count (fun i => (updB (List.replicate (min b.length a.length) 0) (fun i => co a i ^^^ co b i) i, (i : Int))) (min b.length a.length) _ (by rw [updB_zero]; rfl) ?_ ?_) rfl
  · intro i hi
    have hs := updB_succ (List.replicate (min b.length a.length) 0) (fun i => co a i ^^^ co b i) i (by omega)
    simp only [hl]
    rw [if_pos (by omega), idx_co (by omega), Option.bind_some, idx_co (by omega), Option.bind_some, idx_updB _ _ _ _ (by omega), Option.bind_some, wI_succ _ (by omega), Int.toNat_natCast, hs]
  · simp only [hl]
    rw [if_neg (by omega)]
    have := updB_end (List.replicate (min b.length a.length) 0) (fun i => co a i ^^^ co b i)
    rw [hl] at this
    rw [this, Nat.min_comm]; rfl
def xk (k : List UInt8) (x : UInt8) : List UInt8 := (List.range 64).map fun i => co k i ^^^ x
theorem xk_len (k : List UInt8) (x : UInt8) : (xk k x).length = 64 := by simp [xk]
def kk (k : List UInt8) : List UInt8 := if 64 < k.length then sha k else k
def hm (key b : List UInt8) : List UInt8 := sha (xk (kk key) 92 ++ sha (xk (kk key) 54 ++ b))
theorem hm_len (key b : List UInt8) : (hm key b).length = 32 := sha_len _
theorem co_app0 (k : List UInt8) (n i : Nat) : co (k ++ List.replicate n 0) i = co k i := by
  simp only [co, List.getD_eq_getElem?_getD, List.getElem?_append]
  by_cases h : i < k.length
  · rw [if_pos h]
  · rw [if_neg h, List.getElem?_eq_none (show k.length ≤ i by omega)]
    by_cases h2 : i - k.length < n
    · simp [h2]
    · simp [h2]
theorem co_rep (n : Nat) (x : UInt8) (i : Nat) (h : i < n) : co (List.replicate n x) i = x := by
  simp [co, List.getD_eq_getElem?_getD, h]
theorem added_eq (k : List UInt8) (x : UInt8) (h : k.length = 64) : seal_added k x = some (xk k x) := by
  have hm : (1000 : Nat) ≤ most := by decide
  unfold seal_added bytes_Repeat
  rw [if_pos ⟨rfl, rfl⟩, Option.bind_some, word_Xor_eq _ _ (by omega), Option.bind_some]
  congr 1
  unfold xorL xk
  rw [h, List.length_replicate, Nat.min_self]
  apply List.map_congr_left
  intro i hi
  rw [co_rep _ _ _ (by simpa using hi)]; rfl
theorem kk_len (k : List UInt8) : (kk k).length ≤ 64 := by
  unfold kk; split
  · rw [sha_len]; omega
  · omega
theorem Mark_eq (key : List UInt8) (parts : List (List UInt8)) (h : key.length ≤ 10000) (hp : parts.flatten.length ≤ 100000) (hl : parts.length ≤ 1000) : seal_Mark key parts = some (hm key parts.flatten) := by
  have hmo : (1000000 : Nat) ≤ most := by decide
  unfold seal_Mark
  have e1 : (if 64 < (key.length : Int) then ((hash_Sum ([key] : List (List UInt8))).bind fun r5 => some r5) else some key) = some (kk key) := by
    unfold kk
    by_cases h6 : 64 < key.length
    · rw [if_pos (by omega), if_pos h6, hash_Sum_eq [key] (by rw [List.flatten_cons, List.flatten_nil, List.append_nil]; omega) (by simp), Option.bind_some, List.flatten_cons, List.flatten_nil, List.append_nil]
    · rw [if_neg (by omega), if_neg h6]
  have hk := kk_len key
  rw [e1, Option.bind_some, Clone_eq _ (by omega), Option.bind_some, wI_of (by omega) (by omega), show (64 : Int) - ((kk key).length : Int) = ((64 - (kk key).length : Nat) : Int) by omega, makeL_nat _ _ (by omega), Option.bind_some]
  have e2 : appL (kk key) (List.replicate (64 - (kk key).length) 0) = some (kk key ++ List.replicate (64 - (kk key).length) 0) := by
    unfold appL; rw [if_pos (by simp only [List.length_replicate]; omega)]
  have hl64 : (kk key ++ List.replicate (64 - (kk key).length) (0 : UInt8)).length = 64 := by simp only [List.length_append, List.length_replicate]; omega
  have hx : ∀ x, xk (kk key ++ List.replicate (64 - (kk key).length) 0) x = xk (kk key) x := fun x => by
    unfold xk; apply List.map_congr_left; intro i _; rw [co_app0]
  rw [e2, Option.bind_some, added_eq _ _ hl64, Option.bind_some, hx]
  unfold appL
  rw [if_pos (by simp only [List.length_cons, List.length_nil]; omega), Option.bind_some, added_eq _ _ hl64, Option.bind_some, hx]
  have x1 := xk_len (kk key) 54; have x2 := xk_len (kk key) 92
  rw [hash_Sum_eq _ (by rw [List.flatten_append, List.flatten_cons, List.flatten_nil, List.append_nil, List.length_append]; omega) (by simp only [List.length_append, List.length_cons, List.length_nil]; omega), Option.bind_some,
    hash_Sum_eq _ (by rw [List.flatten_cons, List.flatten_cons, List.flatten_nil, List.append_nil, List.length_append, sha_len]; omega) (by simp), Option.bind_some]
  congr 1
  unfold hm
  simp only [List.flatten_append, List.flatten_cons, List.flatten_nil, List.append_nil]
theorem rMark_eq (key b : List UInt8) (h : key.length ≤ 10000) (hb : b.length ≤ 100000) : ref31_Mark key b = some (hm key b) := by
  have hmo : (1000000 : Nat) ≤ most := by decide
  unfold ref31_Mark
  have e1 : (if 64 < (key.length : Int) then ((ref07_Sum key).bind fun r3 => some r3) else some key) = some (kk key) := by
    unfold kk
    by_cases h6 : 64 < key.length
    · rw [if_pos (by omega), if_pos h6, ref_Sum_eq key (by omega), Option.bind_some]
    · rw [if_neg (by omega), if_neg h6]
  have hk := kk_len key
  rw [e1, Option.bind_some]
  have x1 := xk_len (kk key) 54; have x2 := xk_len (kk key) 92
  refine bind_of (x := (xk (kk key) 92, xk (kk key) 54)) (iterC_count (fun i => ((List.range i).map (fun i => co (kk key) i ^^^ 92), (List.range i).map (fun i => co (kk key) i ^^^ 54), (i : Int))) 64 _ rfl ?_ ?_) ?_
  · intro i hi
    simp only []
    rw [if_pos (by omega)]
    have e2 : (if (i : Int) < ((kk key).length : Int) then ((idx (kk key) (i : Int)).bind fun c18 => some c18) else some (0 : UInt8)) = some (co (kk key) i) := by
      by_cases h2 : i < (kk key).length
      · rw [if_pos (by omega), idx_co h2]; rfl
      · rw [if_neg (by omega)]; simp only [co]; rw [List.getD_eq_getElem?_getD, List.getElem?_eq_none (by omega)]; rfl
    rw [e2, Option.bind_some, appL_one _ _ (by simp; omega), Option.bind_some, appL_one _ _ (by simp; omega), Option.bind_some, wI_succ _ (by omega), List.range_succ, List.map_append, List.map_append]; rfl
  · rfl
  · simp only []
    unfold appL
    rw [if_pos (by omega), Option.bind_some, ref_Sum_eq _ (by simp only [List.length_append]; omega), Option.bind_some, if_pos (by rw [sha_len]; omega), Option.bind_some, ref_Sum_eq _ (by simp only [List.length_append, sha_len]; omega), Option.bind_some]; rfl
end Gk

/- Printed by gen.py: for each Go function a pure function, and that the Go code comes to it. No condition beside the equation that says what the pure function gives. -/

set_option linter.unusedVariables false
set_option linter.unusedSimpArgs false
namespace Gk
open Go Go.Proofs

/-! largesse/largesselaw31.lives -/
noncomputable def law31_lives  : Option Bool :=
((makeL 20 (0 : UInt8)).bind fun c1 =>
((iterC (fun s4 : List UInt8 × Int =>
(if s4.2 < (c1.length : Int) then
((idx s4.1 s4.2).bind fun c7 => some (.inl ((s4.1.set (s4.2 : Int).toNat ((11 : UInt8))), (wI (s4.2 + 1)))))
else some (.inr s4.1))) (c1, 0)).bind fun x4 =>
((seal_Mark x4 ([([(72 : UInt8), (105 : UInt8), (32 : UInt8)] : List UInt8), ([(84 : UInt8), (104 : UInt8), (101 : UInt8), (114 : UInt8), (101 : UInt8)] : List UInt8)] : List (List UInt8))).bind fun r28 =>
(if (r28.length : Int) = 32 then
((idx r28 0).bind fun c31 =>
(if c31 = (176 : UInt8) then
((idx r28 1).bind fun c33 =>
(if c33 = (52 : UInt8) then
((idx r28 2).bind fun c35 =>
(if c35 = (76 : UInt8) then
((idx r28 3).bind fun c37 => some (decide (c37 = (97 : UInt8))))
else some false))
else some false))
else some false))
else some false))))
set_option maxRecDepth 100000 in
set_option maxHeartbeats 8000000 in
theorem law31_lives_calls  (r : Bool) (w0 : World) (H : law31_lives = some r) :
    Calls Try.prog 26 [].toArray w0 (fun e w' => e = .returned (.bool r) ∧ Ext w0 w') := by
  have hE : Ext w0 w0 := Ext.refl w0
  unfold law31_lives at H
  refine calls_W (n := 48) Try.func26 rfl rfl rfl ?_
  refine W_seq ?_
  refine W_reg (by kernel_rfl) ?_
  refine wla rfl rfl (q_assign (v := (.bool false)) rfl rfl) ?_
  refine wl_nil ?_
  refine W_th ?_
  refine W_seq ?_
  refine W_reg (by kernel_rfl) ?_
  obtain ⟨c1, hc1, H⟩ := Option.bind_eq_some_iff.1 H
  refine wls rfl rfl (stp_make (L := []) (R := (Sc u8)) rfl T22 rfl rfl hc1 (fun _ _ => rfl) ?_)
  intro v1 w1 o1 n1 g1 l1
  have x1 := grown_ext g1
  have n3 := Nw.ext hE n1
  have e2 := hE.trans x1
  refine wla rfl rfl (q_assign (v := v1) rfl rfl) ?_
  refine wl_nil ?_
  refine W_th ?_
  refine W_seq ?_
  refine W_seq ?_
  refine W_reg (by kernel_rfl) ?_
  refine wla rfl rfl (q_move (v := v1) rfl rfl) ?_
  refine wla rfl rfl (q_len rfl T22.sl rfl (o1.rd (Sc.stab _))) ?_
  refine wla rfl rfl (q_move (v := (i64 0)) rfl rfl) ?_
  refine wl_nil ?_
  refine W_th ?_
  obtain ⟨x4, G4, H⟩ := Option.bind_eq_some_iff.1 H
  refine W_mid (fun f w => f 1 = v1 ∧ f 48 = undef ∧ Ext w0 w ∧ OwK (Sc u8) w [v1] 5 v1 x4 ∧ Nw w0 v1) ?_ ?_
  · refine W_block ?_
    refine W_loop (fun s4 f w => f 1 = v1 ∧ f 6 = (i64 ((c1.length : Int))) ∧ f 7 = (i64 s4.2) ∧ f 48 = undef ∧ Ext w0 w ∧ OwK (Sc u8) w [v1] 5 v1 s4.1 ∧ Nw w0 v1) G4 ?_ ?_
    · exact ⟨rfl, rfl, rfl, rfl, e2, o1, n3⟩
    · rintro s4 _ _ w5 ⟨s1_5, s6_5, s7_5, s48_5, hE5, o0_5, n0_5⟩ H4 hr4
      refine W_seq ?_
      refine W_reg (by kernel_rfl) ?_
      refine wla rfl rfl (q_ltI rfl s7_5 s6_5) ?_
      refine wl_nil ?_
      refine W_th ?_
      refine W_seq ?_
      refine W_cond _ rfl rfl (fun hb6 => ?_) (fun hb6 => ?_)
      · replace H4 := (if_pos (of_decide_eq_true hb6)).symm.trans H4
        refine W_skip ?_
        refine W_th ?_
        refine W_seq ?_
        refine W_block ?_
        refine W_seq ?_
        refine W_reg (by kernel_rfl) ?_
        refine wla rfl rfl (q_move (v := (i64 s4.2)) rfl s7_5) ?_
        refine wla rfl rfl (q_assign (v := (i64 s4.2)) rfl rfl) ?_
        refine wl_nil ?_
        refine W_th ?_
        refine W_reg (by kernel_rfl) ?_
        refine wla rfl rfl (q_move (v := v1) rfl s1_5) ?_
        refine wla rfl rfl (q_move (v := (i64 s4.2)) rfl rfl) ?_
        obtain ⟨c7, hc7, H4⟩ := Option.bind_eq_some_iff.1 H4
        refine wla rfl rfl (q_adr rfl T22 rfl rfl (o0_5.rd (Sc.stab _)) hc7) ?_
        refine wln rfl rfl (stp_store (R := (Sc u8)) (u := (u8 11)) (Sc.stab _) [] [] rfl T22 rfl (cst8 (11 : UInt8) rfl) o0_5 (put_of ((11 : UInt8)) hc7) rfl rfl ?_)
        intro w8 o8 g8 l8
        have e9 := hE5.grown g8 n0_5
        refine wl_nil ?_
        refine bk_n ?_
        refine W_th ?_
        refine W_reg (by kernel_rfl) ?_
        refine wla rfl rfl (q_addI rfl s7_5 rfl) ?_
        refine wla rfl rfl (q_move (v := (i64 ((wI (s4.2 + 1))))) rfl rfl) ?_
        refine wl_nil ?_
        obtain rfl := Option.some.inj H4
        exact ⟨_, rfl, s1_5, s6_5, rfl, s48_5, e9, o8, n0_5⟩
      · replace H4 := (if_neg (of_decide_eq_false hb6)).symm.trans H4
        refine W_exit ?_
        refine th_x ?_
        obtain rfl := Option.some.inj H4
        obtain rfl := hr4 _ rfl
        refine th_x ?_
        refine bk_x ?_
        exact ⟨s1_5, s48_5, hE5, o0_5, n0_5⟩
  · rintro _ w11 ⟨s1_11, s48_11, hE11, o0_11, n0_11⟩
    refine W_th ?_
    refine W_seq ?_
    refine W_reg (by kernel_rfl) ?_
    refine wla rfl rfl (q_move (v := v1) rfl s1_11) ?_
    refine wls rfl rfl (stp_lit (L := [v1]) (R := (Sc u8)) [(u8 72), (u8 105), (u8 32)] ([(72 : UInt8), (105 : UInt8), (32 : UInt8)] : List UInt8) rfl T22 rfl (by exact ⟨rfl, (cst8 (72 : UInt8) rfl), rfl, (cst8 (105 : UInt8) rfl), rfl, (cst8 (32 : UInt8) rfl), trivial⟩) rfl (litC u8 (oneC_u8) (us := [(u8 72), (u8 105), (u8 32)]) (l := ([(72 : UInt8), (105 : UInt8), (32 : UInt8)] : List UInt8)) rfl) rfl (litS u8 (us := [(u8 72), (u8 105), (u8 32)]) (l := ([(72 : UInt8), (105 : UInt8), (32 : UInt8)] : List UInt8)) rfl) ?_)
    intro v12 w12 o12 n12 g12 l12
    have x12 := grown_ext g12
    have q13 : Nq v1 v12 := o0_11.nq n12
    replace o0_11 := o0_11.extL (Sc.stab _) x12 (Lift.call _ x12 n12)
    have n15 := Nw.ext hE11 n12
    have e14 := hE11.trans x12
    refine wls rfl rfl (stp_mark [] [v1] rfl Try.underlying22 Try.underlying5 rfl o12 (by simp) ?_)
    intro w16 hM16 g16 l16
    replace o0_11 := o0_11.other (Sc.stab _) g16 q13 l16
    have e17 := e14.grown g16 n15
    have i18 : By w16 [v1] v12 (([(72 : UInt8), (105 : UInt8), (32 : UInt8)] : List UInt8)) := hM16 [v1] (fun k hk => ⟨(q13.symm) k hk, trivial⟩)
    replace o0_11 := o0_11.weak (Sc.stab _) (show ∀ k, Av [v12, v1] k → Av [v1] k from fun _ h => ⟨h.2.1, trivial⟩)
    refine wls rfl rfl (stp_lit (L := [v1]) (R := (Sc u8)) [(u8 84), (u8 104), (u8 101), (u8 114), (u8 101)] ([(84 : UInt8), (104 : UInt8), (101 : UInt8), (114 : UInt8), (101 : UInt8)] : List UInt8) rfl T22 rfl (by exact ⟨rfl, (cst8 (84 : UInt8) rfl), rfl, (cst8 (104 : UInt8) rfl), rfl, (cst8 (101 : UInt8) rfl), rfl, (cst8 (114 : UInt8) rfl), rfl, (cst8 (101 : UInt8) rfl), trivial⟩) rfl (litC u8 (oneC_u8) (us := [(u8 84), (u8 104), (u8 101), (u8 114), (u8 101)]) (l := ([(84 : UInt8), (104 : UInt8), (101 : UInt8), (114 : UInt8), (101 : UInt8)] : List UInt8)) rfl) rfl (litS u8 (us := [(u8 84), (u8 104), (u8 101), (u8 114), (u8 101)]) (l := ([(84 : UInt8), (104 : UInt8), (101 : UInt8), (114 : UInt8), (101 : UInt8)] : List UInt8)) rfl) ?_)
    intro v19 w19 o19 n19 g19 l19
    have x19 := grown_ext g19
    have q20 : Nq v1 v19 := o0_11.nq n19
    replace i18 := i18.lift (Lift.call _ x19 n19)
    replace o0_11 := o0_11.extL (Sc.stab _) x19 (Lift.call _ x19 n19)
    have n22 := Nw.ext e17 n19
    have e21 := e17.trans x19
    refine wls rfl rfl (stp_mark [] [v1] rfl Try.underlying22 Try.underlying5 rfl o19 (by simp) ?_)
    intro w23 hM23 g23 l23
    replace i18 := i18.lift l23
    replace o0_11 := o0_11.other (Sc.stab _) g23 q20 l23
    have e24 := e21.grown g23 n22
    have i25 : By w23 [v1] v19 (([(84 : UInt8), (104 : UInt8), (101 : UInt8), (114 : UInt8), (101 : UInt8)] : List UInt8)) := hM23 [v1] (fun k hk => ⟨(q20.symm) k hk, trivial⟩)
    replace i18 := i18.lift (Lift.sub (show ∀ k, Av [v19, v1] k → Av [v1] k from fun _ h => ⟨h.2.1, trivial⟩))
    replace o0_11 := o0_11.weak (Sc.stab _) (show ∀ k, Av [v19, v1] k → Av [v1] k from fun _ h => ⟨h.2.1, trivial⟩)
    refine wls rfl rfl (stp_lit (L := [v1]) (R := By) [v12, v19] ([([(72 : UInt8), (105 : UInt8), (32 : UInt8)] : List UInt8), ([(84 : UInt8), (104 : UInt8), (101 : UInt8), (114 : UInt8), (101 : UInt8)] : List UInt8)] : List (List UInt8)) rfl T55 rfl (by exact ⟨rfl, rfl, rfl, rfl, trivial⟩) rfl (LitR.cells (R := By) (w := w23) (L := [v1]) (l := ([([(72 : UInt8), (105 : UInt8), (32 : UInt8)] : List UInt8), ([(84 : UInt8), (104 : UInt8), (101 : UInt8), (114 : UInt8), (101 : UInt8)] : List UInt8)] : List (List UInt8))) (LitR.cons i18 (LitR.cons i25 LitR.nil)) (fun u x h => cells_sl u x h)) rfl (LitR.all (R := By) (w := w23) (L := [v1]) (l := ([([(72 : UInt8), (105 : UInt8), (32 : UInt8)] : List UInt8), ([(84 : UInt8), (104 : UInt8), (101 : UInt8), (114 : UInt8), (101 : UInt8)] : List UInt8)] : List (List UInt8))) (SlK.stab (Sc.stab _)) (LitR.cons i18 (LitR.cons i25 LitR.nil))) ?_)
    intro v26 w26 o26 n26 g26 l26
    have x26 := grown_ext g26
    have i26 : Rw w26 [v1] v26 (([([(72 : UInt8), (105 : UInt8), (32 : UInt8)] : List UInt8), ([(84 : UInt8), (104 : UInt8), (101 : UInt8), (114 : UInt8), (101 : UInt8)] : List UInt8)] : List (List UInt8))) := OwK.slk (SlK.stab (Sc.stab _)) _ o26 (fun k hk => (Old.cons (Old.nil _) o0_11.lt) k (n26 k hk)) (fun _ h => h.2)
    replace i18 := i18.lift (Lift.ext x26 _)
    replace i25 := i25.lift (Lift.ext x26 _)
    replace o0_11 := o0_11.extL (Sc.stab _) x26 (Lift.ext x26 _)
    have e27 := e24.trans x26
    obtain ⟨r28, hr28, H⟩ := Option.bind_eq_some_iff.1 H
    refine wls rfl rfl (stp_call (vs := [v1, v26]) Try.func27 rfl rfl rfl (ar2 rfl rfl) (seal_Mark_calls x4 ([([(72 : UInt8), (105 : UInt8), (32 : UInt8)] : List UInt8), ([(84 : UInt8), (104 : UInt8), (101 : UInt8), (114 : UInt8), (101 : UInt8)] : List UInt8)] : List (List UInt8)) v1 v26 r28 _ (o0_11.rd (Sc.stab _)) (i26.lift (Lift.sub (fun _ _ => trivial))) hr28) ?_)
    rintro _ w28 ⟨v28, rfl, x28, n28_0, o28_0⟩
    refine ⟨_, rfl, ?_⟩
    have i28_0 : By w28 [v1] v28 r28 := OwK.slk (Sc.stab _) _ (OwK.scal o28_0 (v28 :: [v1])) (fun k hk => (Old.cons (Old.nil _) o0_11.lt) k (n28_0 k hk)) (fun _ h => h.2)
    replace i18 := i18.lift (Lift.ext x28 _)
    replace i25 := i25.lift (Lift.ext x28 _)
    replace i26 := i26.lift (Lift.ext x28 _)
    replace o0_11 := o0_11.extL (Sc.stab _) x28 (Lift.ext x28 _)
    have e29 := e27.trans x28
    refine wla rfl rfl (q_assign (v := v28) rfl rfl) ?_
    refine wl_nil ?_
    refine W_th ?_
    refine W_seq ?_
    refine W_reg (by kernel_rfl) ?_
    refine wla rfl rfl (q_move (v := v28) rfl rfl) ?_
    refine wla rfl rfl (q_len rfl T22.sl rfl i28_0) ?_
    refine wla rfl rfl (q_eqI rfl rfl rfl) ?_
    refine wlb rfl rfl (q_move (v := (.bool ((decide ((r28.length : Int) = 32))))) rfl rfl) (fun hb30 => ?_) (fun hb30 => ?_)
    · replace H := (if_pos (of_decide_eq_true hb30)).symm.trans H
      refine wla rfl rfl (q_move (v := v28) rfl rfl) ?_
      obtain ⟨c31, hc31, H⟩ := Option.bind_eq_some_iff.1 H
      refine wla rfl rfl (q_adr rfl T22 rfl rfl i28_0 hc31) ?_
      refine wlq rfl rfl (q_loadS rfl T22 rfl i28_0 hc31) ?_
      refine wla rfl rfl (q_eq8 rfl rfl (cst8 (176 : UInt8) rfl)) ?_
      refine wla rfl rfl (q_pick_t (v := (.bool ((decide (c31 = (176 : UInt8)))))) rfl rfl rfl) ?_
      refine wlb rfl rfl (q_move (v := (.bool ((decide (c31 = (176 : UInt8)))))) rfl rfl) (fun hb32 => ?_) (fun hb32 => ?_)
      · replace H := (if_pos (of_decide_eq_true hb32)).symm.trans H
        refine wla rfl rfl (q_move (v := v28) rfl rfl) ?_
        obtain ⟨c33, hc33, H⟩ := Option.bind_eq_some_iff.1 H
        refine wla rfl rfl (q_adr rfl T22 rfl rfl i28_0 hc33) ?_
        refine wlq rfl rfl (q_loadS rfl T22 rfl i28_0 hc33) ?_
        refine wla rfl rfl (q_eq8 rfl rfl (cst8 (52 : UInt8) rfl)) ?_
        refine wla rfl rfl (q_pick_t (v := (.bool ((decide (c33 = (52 : UInt8)))))) rfl rfl rfl) ?_
        refine wlb rfl rfl (q_move (v := (.bool ((decide (c33 = (52 : UInt8)))))) rfl rfl) (fun hb34 => ?_) (fun hb34 => ?_)
        · replace H := (if_pos (of_decide_eq_true hb34)).symm.trans H
          refine wla rfl rfl (q_move (v := v28) rfl rfl) ?_
          obtain ⟨c35, hc35, H⟩ := Option.bind_eq_some_iff.1 H
          refine wla rfl rfl (q_adr rfl T22 rfl rfl i28_0 hc35) ?_
          refine wlq rfl rfl (q_loadS rfl T22 rfl i28_0 hc35) ?_
          refine wla rfl rfl (q_eq8 rfl rfl (cst8 (76 : UInt8) rfl)) ?_
          refine wla rfl rfl (q_pick_t (v := (.bool ((decide (c35 = (76 : UInt8)))))) rfl rfl rfl) ?_
          refine wlb rfl rfl (q_move (v := (.bool ((decide (c35 = (76 : UInt8)))))) rfl rfl) (fun hb36 => ?_) (fun hb36 => ?_)
          · replace H := (if_pos (of_decide_eq_true hb36)).symm.trans H
            refine wla rfl rfl (q_move (v := v28) rfl rfl) ?_
            obtain ⟨c37, hc37, H⟩ := Option.bind_eq_some_iff.1 H
            refine wla rfl rfl (q_adr rfl T22 rfl rfl i28_0 hc37) ?_
            refine wlq rfl rfl (q_loadS rfl T22 rfl i28_0 hc37) ?_
            refine wla rfl rfl (q_eq8 rfl rfl (cst8 (97 : UInt8) rfl)) ?_
            refine wla rfl rfl (q_pick_t (v := (.bool ((decide (c37 = (97 : UInt8)))))) rfl rfl rfl) ?_
            refine wla rfl rfl (q_assign (v := (.bool ((decide (c37 = (97 : UInt8)))))) rfl rfl) ?_
            refine wl_nil ?_
            refine W_th ?_
            refine W_ret ?_
            obtain rfl := Option.some.inj H
            refine rt1 (.bool ((decide (c37 = (97 : UInt8))))) rfl rfl rfl s48_11 ?_
            exact ⟨rfl, e29⟩
          · replace H := (if_neg (of_decide_eq_false hb36)).symm.trans H
            refine wlk rfl rfl ?_
            refine wlk rfl rfl ?_
            refine wlk rfl rfl ?_
            refine wlk rfl rfl ?_
            refine wla rfl rfl (q_pick_f (v := (.bool false)) rfl rfl rfl) ?_
            refine wla rfl rfl (q_assign (v := (.bool false)) rfl rfl) ?_
            refine wl_nil ?_
            refine W_th ?_
            refine W_ret ?_
            obtain rfl := Option.some.inj H
            refine rt1 (.bool false) rfl rfl rfl s48_11 ?_
            exact ⟨rfl, e29⟩
        · replace H := (if_neg (of_decide_eq_false hb34)).symm.trans H
          refine wlk rfl rfl ?_
          refine wlk rfl rfl ?_
          refine wlk rfl rfl ?_
          refine wlk rfl rfl ?_
          refine wla rfl rfl (q_pick_f (v := (.bool false)) rfl rfl rfl) ?_
          refine wla rfl rfl (q_move (v := (.bool false)) rfl rfl) ?_
          refine wlk rfl rfl ?_
          refine wlk rfl rfl ?_
          refine wlk rfl rfl ?_
          refine wlk rfl rfl ?_
          refine wla rfl rfl (q_pick_f (v := (.bool false)) rfl rfl rfl) ?_
          refine wla rfl rfl (q_assign (v := (.bool false)) rfl rfl) ?_
          refine wl_nil ?_
          refine W_th ?_
          refine W_ret ?_
          obtain rfl := Option.some.inj H
          refine rt1 (.bool false) rfl rfl rfl s48_11 ?_
          exact ⟨rfl, e29⟩
      · replace H := (if_neg (of_decide_eq_false hb32)).symm.trans H
        refine wlk rfl rfl ?_
        refine wlk rfl rfl ?_
        refine wlk rfl rfl ?_
        refine wlk rfl rfl ?_
        refine wla rfl rfl (q_pick_f (v := (.bool false)) rfl rfl rfl) ?_
        refine wla rfl rfl (q_move (v := (.bool false)) rfl rfl) ?_
        refine wlk rfl rfl ?_
        refine wlk rfl rfl ?_
        refine wlk rfl rfl ?_
        refine wlk rfl rfl ?_
        refine wla rfl rfl (q_pick_f (v := (.bool false)) rfl rfl rfl) ?_
        refine wla rfl rfl (q_move (v := (.bool false)) rfl rfl) ?_
        refine wlk rfl rfl ?_
        refine wlk rfl rfl ?_
        refine wlk rfl rfl ?_
        refine wlk rfl rfl ?_
        refine wla rfl rfl (q_pick_f (v := (.bool false)) rfl rfl rfl) ?_
        refine wla rfl rfl (q_assign (v := (.bool false)) rfl rfl) ?_
        refine wl_nil ?_
        refine W_th ?_
        refine W_ret ?_
        obtain rfl := Option.some.inj H
        refine rt1 (.bool false) rfl rfl rfl s48_11 ?_
        exact ⟨rfl, e29⟩
    · replace H := (if_neg (of_decide_eq_false hb30)).symm.trans H
      refine wlk rfl rfl ?_
      refine wlk rfl rfl ?_
      refine wlk rfl rfl ?_
      refine wlk rfl rfl ?_
      refine wla rfl rfl (q_pick_f (v := (.bool false)) rfl rfl rfl) ?_
      refine wla rfl rfl (q_move (v := (.bool false)) rfl rfl) ?_
      refine wlk rfl rfl ?_
      refine wlk rfl rfl ?_
      refine wlk rfl rfl ?_
      refine wlk rfl rfl ?_
      refine wla rfl rfl (q_pick_f (v := (.bool false)) rfl rfl rfl) ?_
      refine wla rfl rfl (q_move (v := (.bool false)) rfl rfl) ?_
      refine wlk rfl rfl ?_
      refine wlk rfl rfl ?_
      refine wlk rfl rfl ?_
      refine wlk rfl rfl ?_
      refine wla rfl rfl (q_pick_f (v := (.bool false)) rfl rfl rfl) ?_
      refine wla rfl rfl (q_move (v := (.bool false)) rfl rfl) ?_
      refine wlk rfl rfl ?_
      refine wlk rfl rfl ?_
      refine wlk rfl rfl ?_
      refine wlk rfl rfl ?_
      refine wla rfl rfl (q_pick_f (v := (.bool false)) rfl rfl rfl) ?_
      refine wla rfl rfl (q_assign (v := (.bool false)) rfl rfl) ?_
      refine wl_nil ?_
      refine W_th ?_
      refine W_ret ?_
      obtain rfl := Option.some.inj H
      refine rt1 (.bool false) rfl rfl rfl s48_11 ?_
      exact ⟨rfl, e29⟩

/-! largesse/largesselaw31.SealMarks -/
noncomputable def law31_SealMarks (a0key : List UInt8) (a1a : List UInt8) (a2b : List UInt8) : Option Bool :=
((law31_lives ).bind fun r1 =>
(if (!r1) = true then
((law31_lives ).bind fun r4 => some r4)
else
(if 150 < (a0key.length : Int) then
((law31_lives ).bind fun r7 => some r7)
else
(if 150 < (a1a.length : Int) then
((law31_lives ).bind fun r10 => some r10)
else
(if 150 < (a2b.length : Int) then
((law31_lives ).bind fun r13 => some r13)
else
((appL (([] : List UInt8)) a0key).bind fun c18 =>
((seal_Mark c18 ([a1a, a2b] : List (List UInt8))).bind fun r23 =>
((appL (([] : List UInt8)) a1a).bind fun c36 =>
((appL c36 a2b).bind fun c41 =>
((ref31_Mark a0key c41).bind fun r46 =>
(if r23 = r46 then some (decide (c18 = a0key))
else some false)))))))))))
set_option maxRecDepth 100000 in
set_option maxHeartbeats 8000000 in
theorem law31_SealMarks_calls (a0key : List UInt8) (a1a : List UInt8) (a2b : List UInt8) (p0 : Value) (p1 : Value) (p2 : Value) (r : Bool) (w0 : World) (hp0 : By w0 [] p0 a0key) (hp1 : By w0 [] p1 a1a) (hp2 : By w0 [] p2 a2b) (H : law31_SealMarks a0key a1a a2b = some r) :
    Calls Try.prog 8 [p0, p1, p2].toArray w0 (fun e w' => e = .returned (.bool r) ∧ Ext w0 w') := by
  have hE : Ext w0 w0 := Ext.refl w0
  unfold law31_SealMarks at H
  refine calls_W (n := 53) Try.func8 rfl rfl rfl ?_
  refine W_seq ?_
  refine W_reg (by kernel_rfl) ?_
  refine wla rfl rfl (q_assign (v := (.bool false)) rfl rfl) ?_
  refine wl_nil ?_
  refine W_th ?_
  refine W_seq ?_
  refine W_seq ?_
  refine W_reg (by kernel_rfl) ?_
  obtain ⟨r1, hr1, H⟩ := Option.bind_eq_some_iff.1 H
  refine wls rfl rfl (stp_call (vs := []) Try.func26 rfl rfl rfl (ar0 ) (law31_lives_calls   r1 _  hr1) ?_)
  rintro _ w1 ⟨rfl, x1⟩
  refine ⟨_, rfl, ?_⟩
  have e2 := hE.trans x1
  refine wla rfl rfl (q_not rfl rfl) ?_
  refine wlb rfl rfl (q_move (v := (.bool ((!r1)))) rfl rfl) (fun hb3 => ?_) (fun hb3 => ?_)
  · replace H := (if_pos hb3).symm.trans H
    refine wlk rfl rfl ?_
    refine wlk rfl rfl ?_
    refine wlk rfl rfl ?_
    refine wla rfl rfl (q_pick_t (v := (.bool true)) rfl rfl rfl) ?_
    refine wla rfl rfl (q_move (v := (.bool true)) rfl rfl) ?_
    refine wlk rfl rfl ?_
    refine wlk rfl rfl ?_
    refine wlk rfl rfl ?_
    refine wla rfl rfl (q_pick_t (v := (.bool true)) rfl rfl rfl) ?_
    refine wla rfl rfl (q_move (v := (.bool true)) rfl rfl) ?_
    refine wlk rfl rfl ?_
    refine wlk rfl rfl ?_
    refine wlk rfl rfl ?_
    refine wla rfl rfl (q_pick_t (v := (.bool true)) rfl rfl rfl) ?_
    refine wl_nil ?_
    refine W_th ?_
    refine W_cond true rfl rfl (fun _ => ?_) (fun hb => by cases hb)
    refine W_seq ?_
    refine W_reg (by kernel_rfl) ?_
    obtain ⟨r4, hr4, H⟩ := Option.bind_eq_some_iff.1 H
    refine wls rfl rfl (stp_call (vs := []) Try.func26 rfl rfl rfl (ar0 ) (law31_lives_calls   r4 _  hr4) ?_)
    rintro _ w4 ⟨rfl, x4⟩
    refine ⟨_, rfl, ?_⟩
    have e5 := e2.trans x4
    refine wla rfl rfl (q_assign (v := (.bool r4)) rfl rfl) ?_
    refine wl_nil ?_
    refine W_th ?_
    refine W_ret ?_
    refine th_r ?_
    obtain rfl := Option.some.inj H
    refine rt1 (.bool r4) rfl rfl rfl rfl ?_
    exact ⟨rfl, e5⟩
  · replace H := (if_neg (ne_true_of_eq_false hb3)).symm.trans H
    refine wla rfl rfl (q_move (v := p0) rfl rfl) ?_
    refine wla rfl rfl (q_len rfl T22.sl rfl (hp0.lift (Lift.ext e2 _))) ?_
    refine wla rfl rfl (q_gtI rfl rfl rfl) ?_
    refine wla rfl rfl (q_pick_f (v := (.bool ((decide (150 < (a0key.length : Int)))))) rfl rfl rfl) ?_
    refine wlb rfl rfl (q_move (v := (.bool ((decide (150 < (a0key.length : Int)))))) rfl rfl) (fun hb6 => ?_) (fun hb6 => ?_)
    · replace H := (if_pos (of_decide_eq_true hb6)).symm.trans H
      refine wlk rfl rfl ?_
      refine wlk rfl rfl ?_
      refine wlk rfl rfl ?_
      refine wla rfl rfl (q_pick_t (v := (.bool true)) rfl rfl rfl) ?_
      refine wla rfl rfl (q_move (v := (.bool true)) rfl rfl) ?_
      refine wlk rfl rfl ?_
      refine wlk rfl rfl ?_
      refine wlk rfl rfl ?_
      refine wla rfl rfl (q_pick_t (v := (.bool true)) rfl rfl rfl) ?_
      refine wl_nil ?_
      refine W_th ?_
      refine W_cond true rfl rfl (fun _ => ?_) (fun hb => by cases hb)
      refine W_seq ?_
      refine W_reg (by kernel_rfl) ?_
      obtain ⟨r7, hr7, H⟩ := Option.bind_eq_some_iff.1 H
      refine wls rfl rfl (stp_call (vs := []) Try.func26 rfl rfl rfl (ar0 ) (law31_lives_calls   r7 _  hr7) ?_)
      rintro _ w7 ⟨rfl, x7⟩
      refine ⟨_, rfl, ?_⟩
      have e8 := e2.trans x7
      refine wla rfl rfl (q_assign (v := (.bool r7)) rfl rfl) ?_
      refine wl_nil ?_
      refine W_th ?_
      refine W_ret ?_
      refine th_r ?_
      obtain rfl := Option.some.inj H
      refine rt1 (.bool r7) rfl rfl rfl rfl ?_
      exact ⟨rfl, e8⟩
    · replace H := (if_neg (of_decide_eq_false hb6)).symm.trans H
      refine wla rfl rfl (q_move (v := p1) rfl rfl) ?_
      refine wla rfl rfl (q_len rfl T22.sl rfl (hp1.lift (Lift.ext e2 _))) ?_
      refine wla rfl rfl (q_gtI rfl rfl rfl) ?_
      refine wla rfl rfl (q_pick_f (v := (.bool ((decide (150 < (a1a.length : Int)))))) rfl rfl rfl) ?_
      refine wlb rfl rfl (q_move (v := (.bool ((decide (150 < (a1a.length : Int)))))) rfl rfl) (fun hb9 => ?_) (fun hb9 => ?_)
      · replace H := (if_pos (of_decide_eq_true hb9)).symm.trans H
        refine wlk rfl rfl ?_
        refine wlk rfl rfl ?_
        refine wlk rfl rfl ?_
        refine wla rfl rfl (q_pick_t (v := (.bool true)) rfl rfl rfl) ?_
        refine wl_nil ?_
        refine W_th ?_
        refine W_cond true rfl rfl (fun _ => ?_) (fun hb => by cases hb)
        refine W_seq ?_
        refine W_reg (by kernel_rfl) ?_
        obtain ⟨r10, hr10, H⟩ := Option.bind_eq_some_iff.1 H
        refine wls rfl rfl (stp_call (vs := []) Try.func26 rfl rfl rfl (ar0 ) (law31_lives_calls   r10 _  hr10) ?_)
        rintro _ w10 ⟨rfl, x10⟩
        refine ⟨_, rfl, ?_⟩
        have e11 := e2.trans x10
        refine wla rfl rfl (q_assign (v := (.bool r10)) rfl rfl) ?_
        refine wl_nil ?_
        refine W_th ?_
        refine W_ret ?_
        refine th_r ?_
        obtain rfl := Option.some.inj H
        refine rt1 (.bool r10) rfl rfl rfl rfl ?_
        exact ⟨rfl, e11⟩
      · replace H := (if_neg (of_decide_eq_false hb9)).symm.trans H
        refine wla rfl rfl (q_move (v := p2) rfl rfl) ?_
        refine wla rfl rfl (q_len rfl T22.sl rfl (hp2.lift (Lift.ext e2 _))) ?_
        refine wla rfl rfl (q_gtI rfl rfl rfl) ?_
        refine wla rfl rfl (q_pick_f (v := (.bool ((decide (150 < (a2b.length : Int)))))) rfl rfl rfl) ?_
        refine wl_nil ?_
        refine W_th ?_
        refine W_cond _ rfl rfl (fun hb12 => ?_) (fun hb12 => ?_)
        · replace H := (if_pos (of_decide_eq_true hb12)).symm.trans H
          refine W_seq ?_
          refine W_reg (by kernel_rfl) ?_
          obtain ⟨r13, hr13, H⟩ := Option.bind_eq_some_iff.1 H
          refine wls rfl rfl (stp_call (vs := []) Try.func26 rfl rfl rfl (ar0 ) (law31_lives_calls   r13 _  hr13) ?_)
          rintro _ w13 ⟨rfl, x13⟩
          refine ⟨_, rfl, ?_⟩
          have e14 := e2.trans x13
          refine wla rfl rfl (q_assign (v := (.bool r13)) rfl rfl) ?_
          refine wl_nil ?_
          refine W_th ?_
          refine W_ret ?_
          refine th_r ?_
          obtain rfl := Option.some.inj H
          refine rt1 (.bool r13) rfl rfl rfl rfl ?_
          exact ⟨rfl, e14⟩
        · replace H := (if_neg (of_decide_eq_false hb12)).symm.trans H
          refine W_skip ?_
          refine W_th ?_
          refine W_seq ?_
          refine W_reg (by kernel_rfl) ?_
          refine wls rfl rfl (stp_lit (L := []) (R := (Sc u8)) [] ([] : List UInt8) rfl T22 rfl (by exact trivial) rfl (litC u8 (oneC_u8) (us := []) (l := ([] : List UInt8)) rfl) rfl (litS u8 (us := []) (l := ([] : List UInt8)) rfl) ?_)
          intro v15 w15 o15 n15 g15 l15
          have x15 := grown_ext g15
          have n17 := Nw.ext e2 n15
          have e16 := e2.trans x15
          refine wla rfl rfl (q_move (v := p0) rfl rfl) ?_
          obtain ⟨c18, hc18, H⟩ := Option.bind_eq_some_iff.1 H
          refine wls rfl rfl (stp_append (R := (Sc u8)) (v := v15) (u := p0) (Sc.stab _) [] [] rfl T22 rfl rfl o15 (hp0.lift (Lift.ext e16 _)) (fun _ _ h => h) hc18 oc_u8 ?_)
          intro v18 w18 o18 g18 nx18 l18
          have e19 := e16.grown g18 n17
          have n20 := Nw.nxt e16 n17 nx18
          refine wla rfl rfl (q_assign (v := v18) rfl rfl) ?_
          refine wl_nil ?_
          refine W_th ?_
          refine W_seq ?_
          refine W_reg (by kernel_rfl) ?_
          refine wla rfl rfl (q_move (v := v18) rfl rfl) ?_
          refine wla rfl rfl (q_move (v := p1) rfl rfl) ?_
          refine wla rfl rfl (q_move (v := p2) rfl rfl) ?_
          refine wls rfl rfl (stp_lit (L := [v18]) (R := By) [p1, p2] ([a1a, a2b] : List (List UInt8)) rfl T55 rfl (by exact ⟨rfl, rfl, rfl, rfl, trivial⟩) rfl (LitR.cells (R := By) (w := w18) (L := [v18]) (l := ([a1a, a2b] : List (List UInt8))) (LitR.cons (hp1.lift (Lift.arg e19 (nv_cons n20 nv_nil))) (LitR.cons (hp2.lift (Lift.arg e19 (nv_cons n20 nv_nil))) LitR.nil)) (fun u x h => cells_sl u x h)) rfl (LitR.all (R := By) (w := w18) (L := [v18]) (l := ([a1a, a2b] : List (List UInt8))) (SlK.stab (Sc.stab _)) (LitR.cons (hp1.lift (Lift.arg e19 (nv_cons n20 nv_nil))) (LitR.cons (hp2.lift (Lift.arg e19 (nv_cons n20 nv_nil))) LitR.nil))) ?_)
          intro v21 w21 o21 n21 g21 l21
          have x21 := grown_ext g21
          have i21 : Rw w21 [v18] v21 (([a1a, a2b] : List (List UInt8))) := OwK.slk (SlK.stab (Sc.stab _)) _ o21 (fun k hk => (Old.cons (Old.nil _) o18.lt) k (n21 k hk)) (fun _ h => h.2)
          replace o18 := o18.extL (Sc.stab _) x21 (Lift.ext x21 _)
          have e22 := e19.trans x21
          obtain ⟨r23, hr23, H⟩ := Option.bind_eq_some_iff.1 H
          refine wls rfl rfl (stp_call (vs := [v18, v21]) Try.func27 rfl rfl rfl (ar2 rfl rfl) (seal_Mark_calls c18 ([a1a, a2b] : List (List UInt8)) v18 v21 r23 _ (o18.rd (Sc.stab _)) (i21.lift (Lift.sub (fun _ _ => trivial))) hr23) ?_)
          rintro _ w23 ⟨v23, rfl, x23, n23_0, o23_0⟩
          refine ⟨_, rfl, ?_⟩
          have i23_0 : By w23 [v18] v23 r23 := OwK.slk (Sc.stab _) _ (OwK.scal o23_0 (v23 :: [v18])) (fun k hk => (Old.cons (Old.nil _) o18.lt) k (n23_0 k hk)) (fun _ h => h.2)
          replace i21 := i21.lift (Lift.ext x23 _)
          replace o18 := o18.extL (Sc.stab _) x23 (Lift.ext x23 _)
          have e24 := e22.trans x23
          refine wla rfl rfl (q_assign (v := v23) rfl rfl) ?_
          refine wl_nil ?_
          refine W_th ?_
          refine W_seq ?_
          refine W_drawTB (B := (World.drew w23).heap.size) [1, 13, 15] [(0, 0), (1, 1), (2, 0), (4, 0), (6, 0)] (.br 3 [(5, 2), (7, 2), (8, 2), (9, 2), (10, 0), (11, 0), (12, 0), (13, 1), (14, 0), (15, 1), (16, 0), (17, 0), (18, 0)] .fin .fin) mixed (by kernel_rfl) (by kernel_rfl) (by kernel_rfl) (by kernel_rfl) ?_
          have x25 := Ext.drew w23
          replace i21 := i21.lift (Lift.ext x25 _)
          replace i23_0 := i23_0.lift (Lift.ext x25 _)
          replace o18 := o18.extL (Sc.stab _) x25 (Lift.ext x25 _)
          have e26 := e24.trans x25
          have eb27 : EB (World.drew w23).heap.size (World.drew w23) (World.drew w23) := EB.refl _
          have si28 := i21
          have si29 := i23_0
          have si30 := o18.rd (Sc.stab _)
          refine wba rfl rfl rfl (q_move (v := v23) rfl rfl) ?_
          refine wbq rfl rfl rfl (Qb.of fun w9 h9 => q_str rfl T22 rfl rfl rfl (By.lift si29 (Lift.ebs (EB.trans eb27 h9)))) ?_
          refine wba rfl rfl rfl (q_move (v := p0) rfl rfl) ?_
          refine wba rfl rfl rfl (q_move (v := p1) rfl rfl) ?_
          refine wba rfl rfl rfl (q_move (v := p2) rfl rfl) ?_
          refine wsB_nil ?_
          refine wrB_br ?_ ?_
          · refine wbs rfl rfl rfl (stp_lit (L := [v18]) (R := (Sc u8)) [] ([] : List UInt8) rfl T22 rfl (by exact trivial) rfl (litC u8 (oneC_u8) (us := []) (l := ([] : List UInt8)) rfl) rfl (litS u8 (us := []) (l := ([] : List UInt8)) rfl) ?_)
            intro v31 w31 o31 n31 g31 l31
            refine ⟨(EB.ext eb27.1 (grown_ext g31)), ?_⟩
            have x31 := grown_ext g31
            have eb32 := EB.trans eb27 (EB.ext eb27.1 x31)
            have q33 : Nq v18 v31 := o18.nq n31
            replace i21 := i21.lift (Lift.call _ x31 n31)
            replace i23_0 := i23_0.lift (Lift.call _ x31 n31)
            replace o18 := o18.extL (Sc.stab _) x31 (Lift.call _ x31 n31)
            have n35 := Nw.ext e26 n31
            have e34 := e26.trans x31
            obtain ⟨c36, hc36, H⟩ := Option.bind_eq_some_iff.1 H
            refine wbs rfl rfl rfl (stp_append (R := (Sc u8)) (v := v31) (u := p1) (Sc.stab _) [] [v18] rfl T22 rfl rfl o31 (hp1.lift (Lift.ext e34 _)) (fun _ _ h => h) hc36 oc_u8 ?_)
            intro v36 w36 o36 g36 nx36 l36
            refine ⟨EB.own eb32.1 g36 (fun k hk => Nat.le_trans eb27.1 (n31 k hk)), ?_⟩
            have eb37 := EB.trans eb32 (EB.own eb32.1 g36 (fun k hk => Nat.le_trans eb27.1 (n31 k hk)))
            replace i21 := i21.lift l36
            replace i23_0 := i23_0.lift l36
            have q38 : Nq v18 v36 := o18.nxt q33 nx36
            replace o18 := o18.other (Sc.stab _) g36 q33 l36
            have e39 := e34.grown g36 n35
            have n40 := Nw.nxt e34 n35 nx36
            obtain ⟨c41, hc41, H⟩ := Option.bind_eq_some_iff.1 H
            refine wbs rfl rfl rfl (stp_append (R := (Sc u8)) (v := v36) (u := p2) (Sc.stab _) [] [v18] rfl T22 rfl rfl o36 (hp2.lift (Lift.ext e39 _)) (fun _ _ h => h) hc41 oc_u8 ?_)
            intro v41 w41 o41 g41 nx41 l41
            refine ⟨EB.own eb37.1 g41 (fun k hk => (nx36 k hk).elim ((fun k hk => Nat.le_trans eb27.1 (n31 k hk)) k) (fun hh => Nat.le_trans eb32.1 hh)), ?_⟩
            have eb42 := EB.trans eb37 (EB.own eb37.1 g41 (fun k hk => (nx36 k hk).elim ((fun k hk => Nat.le_trans eb27.1 (n31 k hk)) k) (fun hh => Nat.le_trans eb32.1 hh)))
            replace i21 := i21.lift l41
            replace i23_0 := i23_0.lift l41
            have q43 : Nq v18 v41 := o18.nxt q38 nx41
            replace o18 := o18.other (Sc.stab _) g41 q38 l41
            have e44 := e39.grown g41 n40
            have n45 := Nw.nxt e39 n40 nx41
            obtain ⟨r46, hr46, H⟩ := Option.bind_eq_some_iff.1 H
            refine wbs rfl rfl rfl (stp_call (vs := [p0, v41]) Try.func28 rfl rfl rfl (ar2 rfl rfl) (ref31_Mark_calls a0key c41 p0 v41 r46 _ (hp0.lift (Lift.ext e44 _)) (o41.rd (Sc.stab _)) hr46) ?_)
            rintro _ w46 ⟨v46, rfl, x46, n46_0, o46_0⟩
            refine ⟨_, rfl, (EB.ext eb42.1 x46), ?_⟩
            have i46_0 : By w46 [v41, v18] v46 r46 := OwK.slk (Sc.stab _) _ (OwK.scal o46_0 (v46 :: [v41, v18])) (fun k hk => (Old.cons (Old.cons (Old.nil _) o18.lt) o41.lt) k (n46_0 k hk)) (fun _ h => h.2)
            have eb47 := EB.trans eb42 (EB.ext eb42.1 x46)
            replace i21 := i21.lift (Lift.ext x46 _)
            replace i23_0 := i23_0.lift (Lift.ext x46 _)
            replace o41 := o41.extL (Sc.stab _) x46 (Lift.ext x46 _)
            replace o18 := o18.extL (Sc.stab _) x46 (Lift.ext x46 _)
            have e48 := e44.trans x46
            refine wbs rfl rfl rfl ((q_str rfl T22 rfl rfl rfl i46_0).stp ⟨EB.refl _, ?_⟩)
            refine wba rfl rfl rfl (q_eqS rfl rfl rfl) ?_
            refine wbb rfl rfl rfl (q_move (v := (.bool ((decide (r23 = r46))))) rfl rfl) (fun hb49 => ?_) (fun hb49 => ?_)
            · replace H := (if_pos (of_decide_eq_true hb49)).symm.trans H
              refine wba rfl rfl rfl (q_move (v := v18) rfl rfl) ?_
              refine wbq rfl rfl rfl (Qb.of fun w9 h9 => q_str rfl T22 rfl rfl rfl (By.lift si30 (Lift.ebs (EB.trans eb47 h9)))) ?_
              refine wba rfl rfl rfl (q_move (v := p0) rfl rfl) ?_
              refine wbq rfl rfl rfl (Qb.of fun w9 h9 => q_str rfl T22 rfl rfl rfl ((hp0.lift (Lift.ext e26 _)).lift (Lift.ebs (EB.trans eb47 h9)))) ?_
              refine wba rfl rfl rfl (q_eqS rfl rfl rfl) ?_
              refine wba rfl rfl rfl (q_pick_t (v := (.bool ((decide (c18 = a0key))))) rfl rfl rfl) ?_
              refine wba rfl rfl rfl (q_assign (v := (.bool ((decide (c18 = a0key))))) rfl rfl) ?_
              refine wsB_nil ?_
              refine wt_fin ?_
              refine W_th ?_
              refine W_ret ?_
              obtain rfl := Option.some.inj H
              refine rt1 (.bool ((decide (c18 = a0key)))) rfl rfl rfl rfl ?_
              exact ⟨rfl, e48⟩
            · replace H := (if_neg (of_decide_eq_false hb49)).symm.trans H
              refine wbk rfl rfl rfl ?_
              refine wbk rfl rfl rfl ?_
              refine wbk rfl rfl rfl ?_
              refine wbk rfl rfl rfl ?_
              refine wbk rfl rfl rfl ?_
              refine wba rfl rfl rfl (q_pick_f (v := (.bool false)) rfl rfl rfl) ?_
              refine wba rfl rfl rfl (q_assign (v := (.bool false)) rfl rfl) ?_
              refine wsB_nil ?_
              refine wt_fin ?_
              refine W_th ?_
              refine W_ret ?_
              obtain rfl := Option.some.inj H
              refine rt1 (.bool false) rfl rfl rfl rfl ?_
              exact ⟨rfl, e48⟩
          · trivial

end Gk

/- Chapter 31: the law SealMarks. No condition. -/


set_option linter.unusedSimpArgs false
set_option linter.unusedVariables false
namespace Gk
open Gf
theorem hm_there : hm (List.replicate 20 11) [72, 105, 32, 84, 104, 101, 114, 101] = [176, 52, 76, 97, 216, 219, 56, 83, 92, 168, 175, 206, 175, 11, 241, 43, 136, 29, 194, 0, 201, 131, 61, 167, 38, 233, 55, 108, 46, 50, 207, 247] := by decide +kernel
theorem lives31 : law31_lives = some true := by
  have hmo : (1000000 : Nat) ≤ most := by decide
  unfold law31_lives
  rw [show (20 : Int) = ((20 : Nat) : Int) by rfl, makeL_nat _ _ (by omega), Option.bind_some]
  refine bind_of (x := List.replicate 20 11) (iterC_some.2 ⟨21, by kernel_rfl⟩) ?_
  rw [Mark_eq _ _ (by simp) (by decide) (by decide), show ([[72, 105, 32], [84, 104, 101, 114, 101]] : List (List UInt8)).flatten = [72, 105, 32, 84, 104, 101, 114, 101] by rfl, hm_there]
  decide
theorem law31_SealMarks_true (key a b : List UInt8) : law31_SealMarks key a b = some true := by
  have hmo : (1000000 : Nat) ≤ most := by decide
  unfold law31_SealMarks
  rw [lives31, Option.bind_some, if_neg (by decide)]
  by_cases h1 : 150 < (key.length : Int)
  · rw [if_pos h1]; rfl
  rw [if_neg h1]
  by_cases h2 : 150 < (a.length : Int)
  · rw [if_pos h2]; rfl
  rw [if_neg h2]
  by_cases h3 : 150 < (b.length : Int)
  · rw [if_pos h3]; rfl
  rw [if_neg h3, appL_nil _ (by omega), Option.bind_some, Mark_eq _ _ (by omega) (by rw [List.flatten_cons, List.flatten_cons, List.flatten_nil, List.append_nil, List.length_append]; omega) (by simp), Option.bind_some, appL_nil _ (by omega), Option.bind_some]
  unfold appL
  rw [if_pos (by omega), Option.bind_some, rMark_eq _ _ (by omega) (by simp only [List.length_append]; omega), Option.bind_some, List.flatten_cons, List.flatten_cons, List.flatten_nil, List.append_nil, if_pos rfl]
  simp
end Gk
