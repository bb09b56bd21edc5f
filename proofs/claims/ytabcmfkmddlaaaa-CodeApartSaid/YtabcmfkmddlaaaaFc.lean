/- slices.Backward over bytes: what it hands back, and its iterator's contract. No condition. -/
import Derived.Test.YtabcmfkmddlaaaaS
import Derived.Test.YtabcmfkmddlaaaaGi
import Derived.Test.YtabcmfkmddlaaaaGj
import Derived.Test.YtabcmfkmddlaaaaGl
set_option linter.unusedVariables false
set_option linter.unusedSimpArgs false
namespace Gk
open Go Go.Proofs Go.RowKit

def mkB (g : Nat) : Value := .slice (some ⟨g, 0, none⟩) 0 1
theorem av_mkB (G : List Nat) (k : Nat) : Av (G.map mkB) k ↔ k ∉ G := by
  induction G with
  | nil => simp [Av]
  | cons g r ih =>
    simp only [List.map_cons, Av, ih, List.mem_cons, not_or]
    constructor
    · rintro ⟨h, h2⟩; exact ⟨fun e => h (by rw [e]; exact .inl rfl), h2⟩
    · rintro ⟨h, h2⟩; exact ⟨fun e => h (by have := hs_sl e; simpa [oB] using this.symm), h2⟩
/-- From W to W' nothing below B turned but the blocks G. -/
def KpG (B : Nat) (G : List Nat) (W W' : World) : Prop := W.heap.size ≤ W'.heap.size ∧ ∀ k, k < B → k ∉ G → W'.heap[k]? = W.heap[k]?
theorem KpG.refl (B : Nat) (G : List Nat) (W : World) : KpG B G W W := ⟨Nat.le_refl _, fun _ _ _ => rfl⟩
theorem KpG.trans {B : Nat} {G : List Nat} {X Y Z : World} (h : KpG B G X Y) (k : KpG B G Y Z) : KpG B G X Z :=
  ⟨Nat.le_trans h.1 k.1, fun i hi hg => (k.2 i hi hg).trans (h.2 i hi hg)⟩
theorem KpG.ext {B : Nat} {G : List Nat} {W W' : World} (h : Ext W W') (hB : B ≤ W.heap.size) : KpG B G W W' := ⟨h.size, fun k hk _ => h.blk k (Nat.lt_of_lt_of_le hk hB)⟩
theorem KpG.grown {B : Nat} {G : List Nat} {W W' : World} {g : Nat} (h : W.grownBy W' (some g)) (hg : g ∈ G) (hB : B ≤ W.heap.size) : KpG B G W W' :=
  ⟨h.size, fun k hk hn => h.block k (Nat.lt_of_lt_of_le hk hB) (fun e => hn (by cases e; exact hg))⟩
theorem KpG.putObj {B : Nat} {G : List Nat} (W : World) {l : Nat} (o : Obj) (h : B ≤ l) : KpG B G W (W.putObj l o) :=
  ⟨by simp, fun k hk _ => World.putObj_heap_other (by omega)⟩
theorem KpG.blk {B : Nat} {G : List Nat} {W W' : World} (h : KpG B G W W') {g : Nat} {T : TypeId} {cs : Array Value} (hB : Blk W g T cs) (hb : g < B) (hg : g ∉ G) : Blk W' g T cs := by
  unfold Blk; rw [h.2 g hb hg]; exact hB
/-- Where a slice's cells lie. -/
def InB (B : Nat) (G : List Nat) (v : Value) (l : List UInt8) : Prop := ∀ b off len cap, v = .slice (some ⟨b, off, none⟩) len cap → l ≠ [] → b < B ∧ b ∉ G
theorem By.keep {B : Nat} {G : List Nat} {W W' : World} {L : List Value} {v : Value} {l : List UInt8} (h : By W L v l) (hv : InB B G v l) (k : KpG B G W W') : By W' [] v l := by
  obtain ⟨us, ⟨p, cap, hp, hc, hne⟩, hl, he⟩ := h
  refine ⟨us, ⟨p, cap, hp, hc, fun hn => ?_⟩, hl, fun i h1 h2 => he i h1 h2⟩
  obtain ⟨b, off, rfl, _, hcell⟩ := hne hn
  refine ⟨b, off, rfl, trivial, fun i hi => ?_⟩
  have hb := hv b off us.length cap hp (fun e => by subst e; exact hn (List.eq_nil_of_length_eq_zero hl))
  rw [World.cell?_of_block (w := W) (w' := W') (a := ⟨b, off + i, none⟩) (k.2 b hb.1 hb.2)]
  exact hcell i hi
theorem By.inB {W : World} {v : Value} {l : List UInt8} (h : By W [] v l) {B : Nat} {G : List Nat} (hB : W.heap.size ≤ B) (hG : ∀ g ∈ G, W.heap.size ≤ g) : InB B G v l := by
  intro b off len cap e hn
  obtain ⟨us, ⟨p, cap', hp, hc, hne⟩, hl, he⟩ := h
  have hus : us ≠ [] := fun e => hn (by subst e; exact List.eq_nil_of_length_eq_zero hl.symm)
  obtain ⟨b', off', rfl, _, hcell⟩ := hne hus
  rw [hp] at e
  simp only [Value.slice.injEq, Option.some.injEq, Addr.mk.injEq] at e
  obtain ⟨⟨rfl, _⟩, _⟩ := e
  have h0 := hcell 0 (List.length_pos_iff.2 hus)
  have hlt := World.block_lt_of_cell? W _ h0
  exact ⟨Nat.lt_of_lt_of_le hlt hB, fun hg => by have := hG b' hg; simp at hlt; omega⟩

/-- The numbers with their places, from the last to the first. -/
def revI (l : List UInt8) : List (Int × UInt8) := (l.mapIdx fun i c => ((i : Int), c)).reverse
theorem revI_len (l : List UInt8) : (revI l).length = l.length := by simp [revI]
theorem revI_get (l : List UInt8) (k : Nat) (h : k < l.length) : (revI l)[l.length - 1 - k]? = some ((k : Int), l[k]) := by
  simp only [revI]
  rw [List.getElem?_reverse (by simp; omega)]
  simp only [List.length_mapIdx, List.getElem?_mapIdx]
  rw [show l.length - 1 - (l.length - 1 - k) = k by omega]
  simp [h]

theorem q_mkfunc {P : Program} {o : Oper} {f : Nat → Value} {g : FuncId} {x : Operand} {v : Value} (ho : o.op = .makeFunc (.func g) #[] #[x]) (hx : ev f x = v) : Qa P o f (.func (.func g) #[] #[v]) := by
  intro w
  simp [execOp, ho, hx, Instr.makeFunc]

theorem Backward_calls (v : Value) (hv : v.cells = #[v]) (w : World) : Calls Try.prog 72 [v].toArray w fun e w' =>
    e = .returned (.func (.func 73) #[] #[.pointer (some ⟨w.heap.size, 0, none⟩)]) ∧ Blk w' w.heap.size 22 #[v] ∧ Ext w w' := by
  refine calls_W (n := 4) Try.func72 rfl rfl rfl ?_
  refine W_seq ?_
  refine W_reg (by kernel_rfl) ?_
  refine wls rfl rfl (stp_box (v := v) rfl rfl ?_)
  intro w1 hb hg
  rw [hv] at hb
  refine wla rfl rfl (q_assign (v := .nilFunc) rfl rfl) ?_
  refine wl_nil ?_
  refine W_th ?_
  refine W_seq ?_
  refine W_reg (by kernel_rfl) ?_
  refine wla rfl rfl (q_mkfunc rfl rfl) ?_
  refine wla rfl rfl (q_assign (v := .func (.func 73) #[] #[.pointer (some ⟨w.heap.size, 0, none⟩)]) rfl rfl) ?_
  refine wl_nil ?_
  refine W_th ?_
  refine W_ret ?_
  refine rt1 (.func (.func 73) #[] #[.pointer (some ⟨w.heap.size, 0, none⟩)]) rfl rfl rfl rfl ?_
  exact ⟨rfl, hb, grown_ext hg⟩
theorem run_yieldcall {P : Program} {o : Oper} {f : Nat → Value} {w : World} {l : Nat} {x y z : Operand} {ts : Array TypeId} {a b : Value} {r : Next} (ho : o.op = .call ⟨.value x, #[y, z], ts⟩) (hx : ev f x = .func (.yield l) #[] #[]) (hy : ev f y = a) (hz : ev f z = b)
    (h : (Instr.yield l #[a, b]).run P w = .ok r w) : (execOp (ev f) o).run P w = .ok r w := by
  simp [execOp, ho, hx, hy, hz, resolve, invoke, Deferred.ofValue, h]

/-- slices.Backward's iterator over bytes, where the loop's body turns the blocks G alone. -/
theorem backward_stops (B : Nat) (G : List Nat) (v : Value) (l : List UInt8) (Bs : Nat) (w : World) (hl : By w [] v l) (hv : InB B G v l) (hB : Blk w Bs 22 #[v]) (hBs : Bs < B) (hBG : Bs ∉ G) (hBw : B ≤ w.heap.size) (hlen : l.length < 9223372036854775808) :
    SeqStopsK Fence.wide 1 Try.prog 73 #[.pointer (some ⟨Bs, 0, none⟩)] (fun x : Int × UInt8 => #[i64 x.1, u8 x.2]) (KpG B G) (fun xs => xs = revI l) (fun pre => pre <+: revI l) l.length w := by
  intro lp J Jx W0 hW _ _ hY h0
  have hk0 : KpG B G w W0 := ⟨hW.size, fun k hk _ => hW.block k (Nat.lt_of_lt_of_le hk hBw)⟩
  have hl0 : By W0 [] v l := hl.keep hv hk0
  have hB0 : Blk W0 Bs 22 #[v] := hk0.blk hB hBs hBG
  refine callsIn_wide.2 ?_
  show Calls Try.prog 73 [Value.func (.yield lp) #[] #[], .pointer (some ⟨Bs, 0, none⟩)].toArray W0 _
  refine calls_W (n := 19) Try.func73 rfl rfl rfl ?_
  refine W_seq ?_
  refine W_reg (by kernel_rfl) ?_
  refine wlq rfl rfl (q_loadB (u := v) rfl Try.isAgg22 rfl hB0 rfl) ?_
  refine wla rfl rfl (q_len rfl T22.sl rfl hl0) ?_
  refine wla rfl rfl (q_subI rfl rfl rfl) ?_
  have e0 : wI ((l.length : Int) - 1) = (l.length : Int) - 1 := wI_of (by omega) (by omega)
  rw [e0]
  refine wla rfl rfl (q_assign (v := i64 ((l.length : Int) - 1)) rfl rfl) ?_
  refine wl_nil ?_
  refine W_th ?_
  refine W_block ?_
  refine W_loopG (fun k f w => f 19 = undef ∧ f 0 = .func (.yield lp) #[] #[] ∧ f 1 = .pointer (some ⟨Bs, 0, none⟩) ∧ f 3 = i64 ((k : Int) - 1) ∧ k ≤ l.length ∧ J ((revI l).take (l.length - k)) w ∧ KpG B G W0 w) l.length ?_ ?_
  · exact ⟨rfl, rfl, rfl, rfl, Nat.le_refl _, by simpa using h0, KpG.refl _ _ _⟩
  · rintro k f w1 ⟨hm, s0, s1, s3, hk, hJ, hKp⟩
    have hl1 : By w1 [] v l := hl0.keep hv hKp
    have hB1 : Blk w1 Bs 22 #[v] := hKp.blk hB0 hBs hBG
    refine W_seq ?_
    refine W_seq ?_
    refine W_reg (by kernel_rfl) ?_
    refine wla rfl rfl (q_move (v := i64 ((k : Int) - 1)) rfl s3) ?_
    refine wla rfl rfl (q_geI rfl rfl rfl) ?_
    refine wl_nil ?_
    refine W_th ?_
    refine W_cond _ rfl rfl (fun hb => ?_) (fun hb => ?_)
    · have hk1 : 0 < k := by have := of_decide_eq_true hb; omega
      have hlt : k - 1 < l.length := by omega
      have hget : l[k - 1]? = some l[k - 1] := by simp [hlt]
      have hidx : idx l ((k : Int) - 1) = some l[k - 1] := by
        rw [show (k : Int) - 1 = ((k - 1 : Nat) : Int) by omega]; simp [idx, hlt]
      have hrev : (revI l).take (l.length - k) ++ [((k : Int) - 1, l[k - 1])] = (revI l).take (l.length - (k - 1)) := by
        have h1 := revI_get l (k - 1) hlt
        rw [show l.length - 1 - (k - 1) = l.length - k by omega] at h1
        rw [show l.length - (k - 1) = l.length - k + 1 by omega, List.take_add_one, h1]
        simp; omega
      refine W_skip ?_
      refine W_th ?_
      refine W_seq ?_
      refine W_block ?_
      refine W_seq ?_
      refine W_reg (by kernel_rfl) ?_
      refine wla rfl rfl (q_move (v := .func (.yield lp) #[] #[]) rfl s0) ?_
      refine wla rfl rfl (q_move (v := i64 ((k : Int) - 1)) rfl s3) ?_
      refine wlq rfl rfl (q_loadB (u := v) rfl Try.isAgg22 s1 hB1 rfl) ?_
      refine wla rfl rfl (q_move (v := i64 ((k : Int) - 1)) rfl s3) ?_
      refine wla rfl rfl (q_adr rfl T22 rfl rfl hl1 hidx) ?_
      refine wlq rfl rfl (q_loadS rfl T22 rfl hl1 hidx) ?_
      obtain ⟨fn, tmps, assign, body, hy, hR⟩ := hY _ ((k : Int) - 1, l[k - 1]) w1 hJ (by rw [List.length_take, revI_len]; omega)
      refine wl_yield rfl (run_yieldcall rfl rfl rfl rfl hy) (hR.mono ?_)
      rintro e w2 (⟨rfl, hJ2, hk2⟩ | ⟨rfl, hJx2⟩)
      · refine ⟨_, rfl, ?_⟩
        refine wla rfl rfl (q_not (b := true) rfl rfl) ?_
        refine wl_nil ?_
        refine W_th ?_
        refine W_cond false rfl rfl (fun h => by cases h) (fun _ => ?_)
        refine W_skip ?_
        refine bk_n ?_
        refine W_th ?_
        refine W_reg (by kernel_rfl) ?_
        refine wla rfl rfl (q_move (v := i64 ((k : Int) - 1)) rfl s3) ?_
        refine wla rfl rfl (q_subI rfl rfl rfl) ?_
        have e1 : wI ((k : Int) - 1 - 1) = ((k - 1 : Nat) : Int) - 1 := by rw [wI_of (by omega) (by omega)]; omega
        rw [e1]
        refine wla rfl rfl (q_assign (v := i64 (((k - 1 : Nat) : Int) - 1)) rfl rfl) ?_
        refine wl_nil ?_
        refine ⟨k - 1, by omega, hm, s0, s1, rfl, by omega, ?_, hKp.trans hk2⟩
        rw [← hrev]; exact hJ2
      · refine ⟨_, rfl, ?_⟩
        refine wla rfl rfl (q_not (b := false) rfl rfl) ?_
        refine wl_nil ?_
        refine W_th ?_
        refine W_cond true rfl rfl (fun _ => ?_) (fun h => by cases h)
        refine W_ret ?_
        refine rt0 rfl hm ?_
        refine ⟨⟨_, rfl⟩, .inr ⟨_, ?_, hJx2⟩⟩
        rw [hrev]; exact List.take_prefix _ _
    · have hk0 : k = 0 := by have := of_decide_eq_false hb; omega
      subst hk0
      refine W_exit ?_
      refine th_x ?_
      refine th_x ?_
      refine bk_x ?_
      refine rtn (rt0 rfl hm ?_)
      refine ⟨⟨_, rfl⟩, .inl ⟨_, rfl, ?_⟩⟩
      rw [Nat.sub_zero, ← revI_len, List.take_length] at hJ
      exact hJ

/-! Where what is read may turn between two rounds: what it then is, Q says. -/
def revN (n : Nat) : List Int := ((List.range n).map fun i : Nat => (i : Int)).reverse
theorem revN_len (n : Nat) : (revN n).length = n := by simp [revN]
theorem revN_get (n k : Nat) (h : k < n) : (revN n)[n - 1 - k]? = some (k : Int) := by
  simp only [revN]
  rw [List.getElem?_reverse (by simp; omega)]
  simp only [List.length_map, List.length_range]
  rw [show n - 1 - (n - 1 - k) = k by omega]
  simp [h]
theorem revI_fst (l : List UInt8) : (revI l).map (·.1) = revN l.length := by
  apply List.ext_getElem?
  intro i
  by_cases hi : i < l.length
  · have h1 := revI_get l (l.length - 1 - i) (by omega)
    have h2 := revN_get l.length (l.length - 1 - i) (by omega)
    rw [show l.length - 1 - (l.length - 1 - i) = i by omega] at h1 h2
    rw [List.getElem?_map, h1, h2]; rfl
  · rw [List.getElem?_eq_none (by simp [revI_len]; omega), List.getElem?_eq_none (by rw [revN_len]; omega)]
theorem mem_revI {l : List UInt8} {x : Int × UInt8} (h : x ∈ revI l) : ∃ k, ∃ h : k < l.length, x = ((k : Int), l[k]) := by
  simp only [revI, List.mem_reverse, List.mem_mapIdx] at h
  obtain ⟨k, hk, rfl⟩ := h
  exact ⟨k, hk, rfl⟩
theorem mem_revN {n : Nat} {x : Int} : x ∈ revN n ↔ ∃ k, k < n ∧ x = (k : Int) := by
  simp only [revN, List.mem_reverse, List.mem_map, List.mem_range]
  constructor
  · rintro ⟨k, hk, rfl⟩; exact ⟨k, hk, rfl⟩
  · rintro ⟨k, hk, rfl⟩; exact ⟨k, hk, rfl⟩
/-- What the iterator reads: its box, and the slice in it. -/
def RdB (Q : List UInt8 → Prop) (Bs : Nat) (v : Value) (w : World) : Prop := Blk w Bs 22 #[v] ∧ ∃ l, Q l ∧ By w [] v l
theorem RdB.tn {Q : List UInt8 → Prop} {B Bs : Nat} {v : Value} {W W' : World} (t : Tn B W W') (h : RdB Q Bs v W) : RdB Q Bs v W' := by
  obtain ⟨h1, l, h2, h3⟩ := h
  exact ⟨h1.tn t, l, h2, h3.lift (t.lift _)⟩
theorem RdB.below {Q : List UInt8 → Prop} {Bs : Nat} {v : Value} {W W' : World} (t : Below W.heap.size W W') (h : RdB Q Bs v W) : RdB Q Bs v W' := by
  obtain ⟨h1, l, h2, h3⟩ := h
  exact ⟨(t.block Bs h1.lt).trans h1, l, h2, h3.lift ⟨fun k o ho _ _ => (t.block k (lt_of_get ho)).trans ho, fun _ _ _ => trivial⟩⟩
abbrev BwEl (Q : List UInt8 → Prop) := {x : Int × UInt8 // ∃ l, Q l ∧ x ∈ revI l}
/-- slices.Backward's iterator over bytes. -/
theorem backward_gen (Q : List UInt8 → Prop) (n : Nat) (hQ : ∀ l, Q l → l.length = n) (v : Value) (Bs : Nat) (w : World) (hrd : RdB Q Bs v w) (hlen : n < 9223372036854775808) :
    SeqStopsK Fence.wide 1 Try.prog 73 #[.pointer (some ⟨Bs, 0, none⟩)] (fun x : BwEl Q => #[i64 x.1.1, u8 x.1.2]) (Keep (RdB Q Bs v)) (fun ys => ys.map (·.1.1) = revN n) (fun _ => True) n w := by
  intro lp J Jx W0 hW _ _ hY h0
  have hrd0 : RdB Q Bs v W0 := hrd.below hW
  refine callsIn_wide.2 ?_
  show Calls Try.prog 73 [Value.func (.yield lp) #[] #[], .pointer (some ⟨Bs, 0, none⟩)].toArray W0 _
  refine calls_W (n := 19) Try.func73 rfl rfl rfl ?_
  refine W_seq ?_
  refine W_reg (by kernel_rfl) ?_
  obtain ⟨hB0, l0, hq0, hl0⟩ := hrd0
  refine wlq rfl rfl (q_loadB (u := v) rfl Try.isAgg22 rfl hB0 rfl) ?_
  refine wla rfl rfl (q_len rfl T22.sl rfl hl0) ?_
  rw [hQ l0 hq0]
  refine wla rfl rfl (q_subI rfl rfl rfl) ?_
  have e0 : wI ((n : Int) - 1) = (n : Int) - 1 := wI_of (by omega) (by omega)
  rw [e0]
  refine wla rfl rfl (q_assign (v := i64 ((n : Int) - 1)) rfl rfl) ?_
  refine wl_nil ?_
  refine W_th ?_
  refine W_block ?_
  refine W_loopG (fun k f w => f 19 = undef ∧ f 0 = .func (.yield lp) #[] #[] ∧ f 1 = .pointer (some ⟨Bs, 0, none⟩) ∧ f 3 = i64 ((k : Int) - 1) ∧ k ≤ n ∧ (∃ ys : List (BwEl Q), ys.map (·.1.1) = (revN n).take (n - k) ∧ J ys w) ∧ RdB Q Bs v w) n ?_ ?_
  · exact ⟨rfl, rfl, rfl, rfl, Nat.le_refl _, ⟨[], by simp, h0⟩, hB0, l0, hq0, hl0⟩
  · rintro k f w1 ⟨hm, s0, s1, s3, hk, ⟨ys, hys, hJ⟩, hrd1⟩
    obtain ⟨hB1, l, hq, hl1⟩ := hrd1
    have hln := hQ l hq
    refine W_seq ?_
    refine W_seq ?_
    refine W_reg (by kernel_rfl) ?_
    refine wla rfl rfl (q_move (v := i64 ((k : Int) - 1)) rfl s3) ?_
    refine wla rfl rfl (q_geI rfl rfl rfl) ?_
    refine wl_nil ?_
    refine W_th ?_
    refine W_cond _ rfl rfl (fun hb => ?_) (fun hb => ?_)
    · have hk1 : 0 < k := by have := of_decide_eq_true hb; omega
      have hlt : k - 1 < l.length := by omega
      have hidx : idx l ((k : Int) - 1) = some l[k - 1] := by
        rw [show (k : Int) - 1 = ((k - 1 : Nat) : Int) by omega]; simp [idx, hlt]
      have hmem : ((k : Int) - 1, l[k - 1]) ∈ revI l := by
        have h1 := revI_get l (k - 1) hlt
        rw [show ((k - 1 : Nat) : Int) = (k : Int) - 1 by omega] at h1
        exact List.mem_of_getElem? h1
      have hys' : (ys ++ [(⟨((k : Int) - 1, l[k - 1]), l, hq, hmem⟩ : BwEl Q)]).map (·.1.1) = (revN n).take (n - (k - 1)) := by
        have h1 := revN_get n (k - 1) (by omega)
        rw [show n - 1 - (k - 1) = n - k by omega] at h1
        rw [show n - (k - 1) = n - k + 1 by omega, List.take_add_one, h1, List.map_append, hys]
        simp; omega
      have hyl : ys.length < n := by
        have := congrArg List.length hys
        rw [List.length_map, List.length_take, revN_len] at this
        omega
      refine W_skip ?_
      refine W_th ?_
      refine W_seq ?_
      refine W_block ?_
      refine W_seq ?_
      refine W_reg (by kernel_rfl) ?_
      refine wla rfl rfl (q_move (v := .func (.yield lp) #[] #[]) rfl s0) ?_
      refine wla rfl rfl (q_move (v := i64 ((k : Int) - 1)) rfl s3) ?_
      refine wlq rfl rfl (q_loadB (u := v) rfl Try.isAgg22 s1 hB1 rfl) ?_
      refine wla rfl rfl (q_move (v := i64 ((k : Int) - 1)) rfl s3) ?_
      refine wla rfl rfl (q_adr rfl T22 rfl rfl hl1 hidx) ?_
      refine wlq rfl rfl (q_loadS rfl T22 rfl hl1 hidx) ?_
      obtain ⟨fn, tmps, assign, body, hy, hR⟩ := hY ys ⟨((k : Int) - 1, l[k - 1]), l, hq, hmem⟩ w1 hJ hyl
      refine wl_yield rfl (run_yieldcall rfl rfl rfl rfl hy) (hR.mono ?_)
      rintro e w2 (⟨rfl, hJ2, hk2⟩ | ⟨rfl, hJx2⟩)
      · refine ⟨_, rfl, ?_⟩
        refine wla rfl rfl (q_not (b := true) rfl rfl) ?_
        refine wl_nil ?_
        refine W_th ?_
        refine W_cond false rfl rfl (fun h => by cases h) (fun _ => ?_)
        refine W_skip ?_
        refine bk_n ?_
        refine W_th ?_
        refine W_reg (by kernel_rfl) ?_
        refine wla rfl rfl (q_move (v := i64 ((k : Int) - 1)) rfl s3) ?_
        refine wla rfl rfl (q_subI rfl rfl rfl) ?_
        have e1 : wI ((k : Int) - 1 - 1) = ((k - 1 : Nat) : Int) - 1 := by rw [wI_of (by omega) (by omega)]; omega
        rw [e1]
        refine wla rfl rfl (q_assign (v := i64 (((k - 1 : Nat) : Int) - 1)) rfl rfl) ?_
        refine wl_nil ?_
        exact ⟨k - 1, by omega, hm, s0, s1, rfl, by omega, ⟨_, hys', hJ2⟩, hk2.2 ⟨hB1, l, hq, hl1⟩⟩
      · refine ⟨_, rfl, ?_⟩
        refine wla rfl rfl (q_not (b := false) rfl rfl) ?_
        refine wl_nil ?_
        refine W_th ?_
        refine W_cond true rfl rfl (fun _ => ?_) (fun h => by cases h)
        refine W_ret ?_
        refine rt0 rfl hm ?_
        exact ⟨⟨_, rfl⟩, .inr ⟨_, trivial, hJx2⟩⟩
    · have hk0 : k = 0 := by have := of_decide_eq_false hb; omega
      subst hk0
      refine W_exit ?_
      refine th_x ?_
      refine th_x ?_
      refine bk_x ?_
      refine rtn (rt0 rfl hm ?_)
      refine ⟨⟨_, rfl⟩, .inl ⟨ys, ?_, hJ⟩⟩
      show ys.map (·.1.1) = revN n
      rw [hys, Nat.sub_zero]
      exact List.take_of_length_le (by rw [revN_len]; omega)
/-- What is read stays: the pairs themselves. -/
theorem bw_exact {l : List UInt8} {ys : List (BwEl (· = l))} (h : ys.map (·.1.1) = revN l.length) : ys.map (·.1) = revI l := by
  apply List.ext_getElem?
  intro i
  have hlen : ys.length = l.length := by have := congrArg List.length h; rwa [List.length_map, revN_len] at this
  by_cases hi : i < ys.length
  · have h1 := revI_get l (l.length - 1 - i) (by omega)
    rw [show l.length - 1 - (l.length - 1 - i) = i by omega] at h1
    have h2 := congrArg (·[i]?) h
    dsimp only at h2
    have h3 := revN_get l.length (l.length - 1 - i) (by omega)
    rw [show l.length - 1 - (l.length - 1 - i) = i by omega] at h3
    rw [h3, List.getElem?_map, List.getElem?_eq_getElem hi] at h2
    rw [h1, List.getElem?_map, List.getElem?_eq_getElem hi]
    obtain ⟨l', rfl, hm⟩ := ys[i].2
    obtain ⟨k, hk, e⟩ := mem_revI hm
    simp only [Option.map_some, Option.some.injEq] at h2 ⊢
    rw [e] at h2 ⊢
    have hk' : k = l'.length - 1 - i := by simp only at h2; omega
    subst hk'; rfl
  · rw [List.getElem?_eq_none (by simpa using hi), List.getElem?_eq_none (by rw [revI_len]; omega)]
theorem bw_mem {l : List UInt8} (x : BwEl (· = l)) : x.1 ∈ revI l := by
  obtain ⟨x, l', rfl, hm⟩ := x
  exact hm
theorem bw_memN {n : Nat} (x : BwEl (fun l => l.length = n)) : x.1.1 ∈ revN n := by
  obtain ⟨x, l', rfl, hm⟩ := x
  obtain ⟨k, hk, rfl⟩ := mem_revI hm
  exact mem_revN.2 ⟨k, hk, rfl⟩
theorem Backward_callsG (v : Value) (hv : v.cells = #[v]) (w : World) : Calls Try.prog 72 [v].toArray w fun e w' =>
    ∃ g, e = .returned (.func (.func 73) #[] #[bp g]) ∧ Nw w (bp g) ∧ Blk w' g 22 #[v] ∧ Ext w w' :=
  (Backward_calls v hv w).mono fun e w' h => ⟨w.heap.size, h.1, Nw.bp w, h.2.1, h.2.2⟩
end Gk
