/-
  What the functions that the law reaches compute, told by plain data; it holds of programs that pass the check of right form and are light.
-/
import Derived.Test.YtjhloakacicdiaaR1
import Derived.Test.YtjhloakacicdiaaR2
import Derived.Test.YtjhloakacicdiaaS2
set_option linter.unusedVariables false
set_option linter.unusedSimpArgs false
namespace Go.Proofs.Ytjhloakacicdiaa
open Go.AH
attribute [local irreducible] W RS
def chunks (w : Nat) : Nat → List Value → List (List Value)
  | 0, _ => []
  | n + 1, l => l.take w :: chunks w n (l.drop w)
theorem chunks_ok (w : Nat) : ∀ (n : Nat) (l : List Value), l.length = n * w → (chunks w n l).flatten = l ∧ (chunks w n l).length = n ∧ (∀ c ∈ chunks w n l, c.length = w) ∧ ∀ j, j < n → (chunks w n l)[j]? = some (takeV (j * w) w l) := by
  intro n
  induction n with
  | zero =>
    intro l hl
    have : l = [] := List.length_eq_zero_iff.1 (by omega)
    subst this
    exact ⟨rfl, rfl, (fun c hc => by cases hc), fun j hj => absurd hj (Nat.not_lt_zero _)⟩
  | succ n ih =>
    intro l hl
    rw [Nat.succ_mul] at hl
    obtain ⟨h1, h2, h3, h4⟩ := ih (l.drop w) (by simp; omega)
    refine ⟨?_, by simp [chunks, h2], fun c hc => ?_, fun j hj => ?_⟩
    · rw [chunks, List.flatten_cons, h1, List.take_append_drop]
    · rw [chunks] at hc
      rcases List.mem_cons.1 hc with e | e
      · subst e; simp; omega
      · exact h3 c e
    · cases j with
      | zero => simp [chunks, takeV_eq]
      | succ j =>
        rw [chunks, List.getElem?_cons_succ, h4 j (by omega), takeV_eq, takeV_eq, List.drop_drop]
        congr 3
        rw [Nat.succ_mul]; omega
def boolR (cs : List Value) (b : Bool) : Prop := cs = [.bool b]
theorem slat_whole {α : Type} {h : Hp} {A : Option Addr} {w : Nat} {l : List α} {R : List Value → α → Prop} (s : SlAt h A w l R) (hl : l ≠ []) : ∃ b off cs e, A = some ⟨b, off, none⟩ ∧ h.m b = some ⟨⟨cs⟩, e⟩ ∧ off + l.length * w ≤ cs.length ∧ ∀ i x, l[i]? = some x → R (takeV (off + i * w) w cs) x := by
  have hpos := List.length_pos_iff.2 hl
  obtain ⟨x, hx⟩ : ∃ x, l[l.length - 1]? = some x := ⟨_, List.getElem?_eq_getElem (by omega)⟩
  obtain ⟨b, off, cs, e, h1, h2, h3, _⟩ := s.get _ x hx
  refine ⟨b, off, cs, e, h1, h2, ?_, fun i y hy => ?_⟩
  · have : l.length * w = (l.length - 1) * w + w := by rw [← Nat.succ_mul]; congr 1; omega
    omega
  · obtain ⟨b', off', cs', e', g1, g2, g3, g4⟩ := s.get i y hy
    rw [h1] at g1
    injection g1 with g1
    injection g1 with g5 g6
    subst g5; subst g6
    rw [h2] at g2
    injection g2 with g2
    injection g2 with g7 g8
    injection g7 with g7
    subst g7
    exact g4
def RowE {α : Type} (h : Hp) (N : Nat) (e : TypeId) (A : Option Addr) (l : List α) (enc : α → Value) : Prop := l = [] ∨ ∃ r, A = some ⟨r, 0, none⟩ ∧ N ≤ r ∧ h.m r = some ⟨⟨l.map enc⟩, e⟩
theorem RowE.up {α : Type} {h H : Hp} {N : Nat} {e : TypeId} {A : Option Addr} {l : List α} {enc : α → Value} (s : RowE h N e A l enc) (hu : ∀ i b, h.m i = some b → b.elem = e → H.m i = some b) : RowE H N e A l enc := by
  rcases s with s | ⟨r, h1, h2, h3⟩
  · exact .inl s
  · exact .inr ⟨r, h1, h2, hu _ _ h3 rfl⟩
theorem RowE.sl {α : Type} {h : Hp} {N : Nat} {e : TypeId} {A : Option Addr} {l : List α} {enc : α → Value} (s : RowE h N e A l enc) {R : List Value → α → Prop} (hR : ∀ x, R [enc x] x) : SlAt h A 1 l R := by
  rcases s with rfl | ⟨r, rfl, _, h3⟩
  · exact .nil
  · refine ⟨fun i x hx => ⟨r, 0, _, e, rfl, h3, ?_, ?_⟩⟩
    · have := (List.getElem?_eq_some_iff.1 hx).1
      rw [List.length_map]; omega
    · have : takeV (0 + i * 1) 1 (l.map enc) = [enc x] := by
        rw [takeV_eq, Nat.zero_add, Nat.mul_one]
        obtain ⟨h1, h2⟩ := List.getElem?_eq_some_iff.1 hx
        rw [List.drop_eq_getElem_cons (by simpa using h1)]
        simp [h2]
      rw [this]; exact hR x
theorem slat_map {α : Type} {h : Hp} {A : Option Addr} {l : List α} {R : List Value → α → Prop} {enc : α → Value} {vs : List Value} (s : SlAt h A 1 l R) (hv : l ≠ [] → ∃ b off cs e, A = some ⟨b, off, none⟩ ∧ h.m b = some ⟨⟨cs⟩, e⟩ ∧ off + l.length * 1 ≤ cs.length ∧ takeV off (l.length * 1) cs = vs) (hn : l ≠ []) (hR : ∀ cs x, R cs x → cs = [enc x]) : vs = l.map enc := by
  obtain ⟨b, off, cs, e, h1, h2, h3, h4⟩ := hv hn
  subst h4
  apply List.ext_getElem?
  intro i
  rw [takeV_eq, List.getElem?_map]
  by_cases hi : i < l.length
  · rw [List.getElem?_take_of_lt (by omega), List.getElem?_drop, List.getElem?_eq_getElem hi]
    obtain ⟨b', off', cs', e', g1, g2, g3, g4⟩ := s.get i l[i] (List.getElem?_eq_getElem hi)
    rw [h1] at g1
    injection g1 with g1
    injection g1 with g5 g6
    subst g5; subst g6
    rw [h2] at g2
    injection g2 with g2
    injection g2 with g7 _
    injection g7 with g7
    subst g7
    have := take_nth (hR _ _ g4) (j := 0) rfl
    rw [Nat.mul_one, Nat.add_zero] at this
    rw [this]; rfl
  · rw [List.getElem?_eq_none_iff.2 (by simp; omega), List.getElem?_eq_none_iff.2 (by omega)]; rfl
structure OwnD (h : Hp) (N : Nat) (bv : List BV) : Prop where
  row : ∀ b ∈ bv, b.ins ≠ [] → N ≤ b.r ∧ h.m b.r = some ⟨⟨(b.ins.map insVC).flatten⟩, 64⟩
  arg : ∀ b ∈ bv, ∀ x ∈ b.ins, x.1.args ≠ [] → N ≤ x.2 ∧ h.m x.2 = some ⟨⟨argsC x.1.args⟩, 43⟩
  sep : bv.Pairwise fun x y => x.ins ≠ [] → y.ins ≠ [] → x.r < y.r
  sepA : (bv.flatMap (·.ins)).Pairwise fun x y => x.1.args ≠ [] → y.1.args ≠ [] → x.2 < y.2
theorem OwnD.up {h H : Hp} {N : Nat} {bv : List BV} (o : OwnD h N bv) (hu : ∀ i b, h.m i = some b → H.m i = some b) : OwnD H N bv :=
  ⟨fun b hb hn => ⟨(o.row b hb hn).1, hu _ _ (o.row b hb hn).2⟩, fun b hb x hx hn => ⟨(o.arg b hb x hx hn).1, hu _ _ (o.arg b hb x hx hn).2⟩, o.sep, o.sepA⟩
theorem OwnD.own {h : Hp} {N bb : Nat} {bv : List BV} (o : OwnD h N bv) (hN : rwM ≤ N) (hb : rwM ≤ bb) (hm : h.m bb = some ⟨⟨(bv.map BV.c).flatten⟩, 47⟩) : OwnB h bb bv := by
  refine ⟨hb, hm, fun b hb hn => ⟨Nat.le_trans hN (o.row b hb hn).1, (o.row b hb hn).2⟩, fun b hb x hx hn => ⟨Nat.le_trans hN (o.arg b hb x hx hn).1, (o.arg b hb x hx hn).2⟩, fun i j x y hx hy hxn hyn he => ?_⟩
  obtain ⟨hi, hx'⟩ := List.getElem?_eq_some_iff.1 hx
  obtain ⟨hj, hy'⟩ := List.getElem?_eq_some_iff.1 hy
  rcases Nat.lt_trichotomy i j with h1 | h1 | h1
  · have := List.pairwise_iff_getElem.1 o.sep i j hi hj h1
    rw [hx', hy'] at this
    have := this hxn hyn
    omega
  · exact h1
  · have := List.pairwise_iff_getElem.1 o.sep j i hj hi h1
    rw [hx', hy'] at this
    have := this hyn hxn
    omega
theorem slat_vs {α : Type} {h : Hp} {A : Option Addr} {w : Nat} {l : List α} {R : List Value → α → Prop} (s : SlAt h A w l R) : ∃ vs : List Value, l ≠ [] → ∃ b off cs e, A = some ⟨b, off, none⟩ ∧ h.m b = some ⟨⟨cs⟩, e⟩ ∧ off + l.length * w ≤ cs.length ∧ takeV off (l.length * w) cs = vs := by
  by_cases hl : l = []
  · exact ⟨[], fun h => absurd hl h⟩
  · obtain ⟨b, off, cs, e, h1, h2, h3, _⟩ := slat_whole s hl
    exact ⟨_, fun _ => ⟨b, off, cs, e, h1, h2, h3, rfl⟩⟩
theorem vs_up {h H : Hp} {A : Option Addr} {n w : Nat} {vs : List Value} (hv : n ≠ 0 → ∃ b off cs e, A = some ⟨b, off, none⟩ ∧ h.m b = some ⟨⟨cs⟩, e⟩ ∧ off + n * w ≤ cs.length ∧ takeV off (n * w) cs = vs) (hu : ∀ i b, h.m i = some b → H.m i = some b) : n ≠ 0 → ∃ b off cs e, A = some ⟨b, off, none⟩ ∧ H.m b = some ⟨⟨cs⟩, e⟩ ∧ off + n * w ≤ cs.length ∧ takeV off (n * w) cs = vs := by
  intro hn
  obtain ⟨b, off, cs, e, h1, h2, h3⟩ := hv hn
  exact ⟨b, off, cs, e, h1, hu _ _ h2, h3⟩
theorem cell_le {w : Nat} {L : List (List Value)} (hw : ∀ c ∈ L, c.length = w) {i : Nat} {x : List Value} (hx : L[i]? = some x) {o : Nat} (ho : o + 1 ≤ w) : 0 + i * w + o + 1 ≤ L.flatten.length := by
  have := (flat_take hw hx).2
  omega
theorem cell_put {w : Nat} {L : List (List Value)} (hw : ∀ c ∈ L, c.length = w) {i : Nat} {x y : List Value} (hx : L[i]? = some x) {o : Nat} {v : Value} (ho : o + 1 ≤ w) (hy : setL x o [v] = y) : setL L.flatten (0 + i * w + o) [v] = (L.set i y).flatten := by
  rw [Nat.zero_add, flat_set hw hx (by simpa using ho), hy]
set_option maxRecDepth 100000 in
theorem copy_ex (h : Hp) (f : FuncS) (A1 : Option Addr) (c1 : Nat) (A2 : Option Addr) (c2 : Nat) (A3 : Option Addr) (c3 : Nat) (sec : List Bool) (hsec : sec.length = f.secret) (hS : SlAt h A1 1 sec boolR) (hL : SlAt h A2 1 f.slots intR) (hB : SlAt h A3 9 f.blocks (blockR h))
    (hpos : 0 < f.blocks.length) (hb1 : f.secret ≤ 1000000) (hb2 : f.slots.length ≤ 1000000) (hb3 : f.blocks.length ≤ 100000) (hb4 : ∀ b ∈ f.blocks, b.ins.length ≤ 1000000) (hb5 : ∀ b ∈ f.blocks, ∀ x ∈ b.ins, x.args.length ≤ 1000000) :
    EX Try.prog 10 [.agg ⟨funcC f A1 c1 A2 c2 A3 c3⟩] h (fun v h' => ∃ A1' c1' A2' c2' bb bv, v = .agg ⟨funcC f A1' c1' A2' c2' (some ⟨bb, 0, none⟩) (capOf 9)⟩ ∧ h'.m bb = some ⟨⟨(bv.map BV.c).flatten⟩, 47⟩ ∧ h.n ≤ bb ∧ OwnD h' h.n bv ∧ sL bv = f.blocks ∧ Old h h' ∧ RowE h' h.n 4 A1' sec .bool ∧ RowE h' h.n 3 A2' f.slots (.int .i64)) := by
  refine EX.intro (fn := Try.f10) (c := (Try.f10.body.getD .skip)) Try.func10 (by kernel_rfl) Try.ntmps10 (by kernel_rfl) fun π s0 => ?_
  conv => arg 2; whnf
  have hd := s0.dom
  obtain ⟨vs1, hv1⟩ := slat_vs hS
  obtain ⟨vs2, hv2⟩ := slat_vs hL
  have hcp1 := hv1
  have hcp2 := hv2
  replace hv1 : f.secret ≠ 0 → ∃ b off cs e, A1 = some ⟨b, off, none⟩ ∧ h.m b = some ⟨⟨cs⟩, e⟩ ∧ off + f.secret * 1 ≤ cs.length ∧ takeV off (f.secret * 1) cs = vs1 := by
    rw [← hsec]
    exact fun hn => hv1 (fun e => hn (by rw [e]; rfl))
  replace hv2 : f.slots.length ≠ 0 → ∃ b off cs e, A2 = some ⟨b, off, none⟩ ∧ h.m b = some ⟨⟨cs⟩, e⟩ ∧ off + f.slots.length * 1 ≤ cs.length ∧ takeV off (f.slots.length * 1) cs = vs2 := fun hn => hv2 (fun e => hn (by rw [e]; rfl))
  obtain ⟨b3, o3, cs3, e3, rfl, hm3, hl3, hR3⟩ := slat_whole hB (List.length_pos_iff.1 hpos)
  ((with_reducible apply W.seq); repeat (first | ((with_reducible apply RS.alloc); exact rfl; exact rfl) | ((with_reducible apply RS.box); exact rfl; exact rfl; exact rfl) | ((with_reducible apply RS.nil); exact mixed; kernel_rfl) | ((with_reducible apply W.reg); kernel_rfl) | ((with_reducible apply thenK_n))))
  refine W.absorbX fun B0 π0 a0 => ?_
  have hF : B0.m (π 0) = some ⟨⟨funcC f A1 c1 A2 c2 (some ⟨b3, o3, none⟩) c3⟩, 35⟩ := a0.loc 0 (Nat.lt_of_lt_of_le Nat.zero_lt_one (Nat.le_succ 1))
  have hfb : h.n ≤ π 0 := a0.lo 0 (Nat.lt_of_lt_of_le Nat.zero_lt_one (Nat.le_succ 1))
  have hrb : h.n ≤ π 1 := a0.lo 1 (Nat.lt_succ_self 1)
  have hRb : B0.m (π 1) = some ⟨⟨cellsV (.agg ⟨funcC ⟨⟨#[]⟩, 0, 0, 0, [], []⟩ none 0 none 0 none 0⟩)⟩, 35⟩ := a0.loc 1 (Nat.lt_succ_self 1)
  have hfr : π 0 ≠ π 1 := fun e => absurd (a0.inj 0 1 (Nat.lt_of_lt_of_le Nat.zero_lt_one (Nat.le_succ 1)) (Nat.lt_succ_self 1) e) (by decide)
  generalize π 0 = fb at *
  generalize π 1 = rb at *
  have hRw : rwM ≤ rb := Nat.le_trans s0.rw hrb
  have hFw : rwM ≤ fb := Nat.le_trans s0.rw hfb
  have hFn := a0.dom _ _ hF
  replace hv1 := vs_up hv1 a0.up
  have sets : ∀ {H : Hp} {x : Blk}, H.m fb = some x → Sat Try.prog H → ∀ {h0 : Hp}, Old h0 H → h0.n ≤ fb → ∀ z, Old h0 (H.set fb z) := fun hx sx h0 o hlt z => (o.off.same ((OffS.set _ fb z).mono (T := fun j => h0.n ≤ j) fun j _ e => by rw [e]; exact hlt)).old fun j hj e => by omega
  ((with_reducible apply W.seq); repeat (first | ((with_reducible apply RS.load1B); exact rfl; exact rfl; exact rfl; exact hF; exact hFn; exact rfl) | ((with_reducible apply RS.copyNil (vs := vs1)); exact rfl; exact rfl; exact rfl; exact rfl; exact rfl; exact rfl; exact fun B hB => vs_up hv1 hB.up; omega; omega; intro B1 hB1 A1' c1' H1 π1 sH1 hz1 hn1 hle1 hoff1; have hF1 := (hoff1 fb (hB1.dom _ _ (hB1.up _ _ hF))).trans (hB1.up _ _ hF); have hF1n := sH1.dom _ _ hF1) | ((with_reducible apply RS.storeB); exact rfl; exact rfl; exact rfl; exact hF1; exact hF1n; exact hFw; exact Nat.le_of_ble_eq_true rfl; exact rfl; exact rfl; exact (show setL (funcC f A1 c1 A2 c2 (some ⟨b3, o3, none⟩) c3) (0 + 2) [.slice A1' f.secret c1'] = funcC f A1' c1' A2 c2 (some ⟨b3, o3, none⟩) c3 from rfl)) | ((with_reducible apply RS.fieldAddr); exact rfl; exact rfl; exact rfl) | ((with_reducible apply RS.nil); exact mixed; kernel_rfl) | ((with_reducible apply W.reg); kernel_rfl) | ((with_reducible apply thenK_n))))
  refine W.absorbX fun B2 π2 a2 => ?_
  have old2 : Old h B2 := (sets hF1 sH1 ((a0.oldH.trans hB1.oldH).trans ⟨hle1, hoff1⟩) hfb _).trans a2.oldH
  have kp1 : ∀ {j : Nat} {x : Blk}, B0.m j = some x → j ≠ fb → B2.m j = some x := by
    intro j x hx hne
    refine a2.up _ _ ?_
    show (if j = fb then _ else H1.m j) = _
    rw [if_neg hne, hoff1 j (hB1.dom _ _ (hB1.up _ _ hx))]
    exact hB1.up _ _ hx
  have hRb2 := kp1 hRb (fun e => hfr e.symm)
  have hA1 : f.secret ≠ 0 → ∃ r, A1' = some ⟨r, 0, none⟩ ∧ h.n ≤ r ∧ B2.m r = some ⟨⟨vs1⟩, 4⟩ := by
    intro hn
    obtain ⟨r, h1, _, h2, h3⟩ := hn1 hn
    have hb0 : B0.n ≤ B1.n := hB1.le
    refine ⟨r, h1, Nat.le_trans a0.le (Nat.le_trans hB1.le h2), a2.up _ _ ?_⟩
    show (if r = fb then _ else H1.m r) = _
    rw [if_neg (by have := a0.dom _ _ hF; omega)]
    exact h3
  replace hF : B2.m fb = some ⟨⟨funcC f A1' c1' A2 c2 (some ⟨b3, o3, none⟩) c3⟩, 35⟩ := a2.up _ _ (by show (if fb = fb then _ else _) = _; rw [if_pos rfl])
  replace hFn := a2.dom _ _ hF
  replace hv2 := vs_up hv2 (old2.up hd)
  ((with_reducible apply W.seq); repeat (first | ((with_reducible apply RS.load1B); exact rfl; exact rfl; exact rfl; exact hF; exact hFn; exact rfl) | ((with_reducible apply RS.copyNil (vs := vs2)); exact rfl; exact rfl; exact rfl; exact rfl; exact rfl; exact rfl; exact fun B hB => vs_up hv2 hB.up; omega; omega; intro B3 hB3 A2' c2' H3 π3 sH3 hz3 hn3 hle3 hoff3; have hF3 := (hoff3 fb (hB3.dom _ _ (hB3.up _ _ hF))).trans (hB3.up _ _ hF); have hF3n := sH3.dom _ _ hF3) | ((with_reducible apply RS.storeB); exact rfl; exact rfl; exact rfl; exact hF3; exact hF3n; exact hFw; exact Nat.le_of_ble_eq_true rfl; exact rfl; exact rfl; exact (show setL (funcC f A1' c1' A2 c2 (some ⟨b3, o3, none⟩) c3) (0 + 4) [.slice A2' f.slots.length c2'] = funcC f A1' c1' A2' c2' (some ⟨b3, o3, none⟩) c3 from rfl)) | ((with_reducible apply RS.fieldAddr); exact rfl; exact rfl; exact rfl) | ((with_reducible apply RS.nil); exact mixed; kernel_rfl) | ((with_reducible apply W.reg); kernel_rfl) | ((with_reducible apply thenK_n))))
  refine W.absorbX fun B4 π4 a4 => ?_
  have kp2 : ∀ {j : Nat} {x : Blk}, B2.m j = some x → j ≠ fb → B4.m j = some x := by
    intro j x hx hne
    refine a4.up _ _ ?_
    show (if j = fb then _ else H3.m j) = _
    rw [if_neg hne, hoff3 j (hB3.dom _ _ (hB3.up _ _ hx))]
    exact hB3.up _ _ hx
  have old4 : Old h B4 := (sets hF3 sH3 ((old2.trans hB3.oldH).trans ⟨hle3, hoff3⟩) hfb _).trans a4.oldH
  have hRb4 := kp2 hRb2 (fun e => hfr e.symm)
  have hA2 : f.slots.length ≠ 0 → ∃ r, A2' = some ⟨r, 0, none⟩ ∧ h.n ≤ r ∧ B4.m r = some ⟨⟨vs2⟩, 3⟩ := by
    intro hn
    obtain ⟨r, h1, _, h2, h3⟩ := hn3 hn
    have hlt : B2.n ≤ r := Nat.le_trans hB3.le h2
    refine ⟨r, h1, Nat.le_trans old2.1 hlt, a4.up _ _ ?_⟩
    show (if r = fb then _ else H3.m r) = _
    rw [if_neg (by omega)]
    exact h3
  replace hA1 : f.secret ≠ 0 → ∃ r, A1' = some ⟨r, 0, none⟩ ∧ h.n ≤ r ∧ B4.m r = some ⟨⟨vs1⟩, 4⟩ := by
    intro hn
    obtain ⟨r, h1, h2, h3⟩ := hA1 hn
    exact ⟨r, h1, h2, kp2 h3 (ne_of_elem h3 hF (by simp))⟩
  replace hF : B4.m fb = some ⟨⟨funcC f A1' c1' A2' c2' (some ⟨b3, o3, none⟩) c3⟩, 35⟩ := a4.up _ _ (by show (if fb = fb then _ else _) = _; rw [if_pos rfl])
  replace hFn := a4.dom _ _ hF
  obtain ⟨vs3, hvs3⟩ : ∃ vs3, takeV o3 (f.blocks.length * 9) cs3 = vs3 := ⟨_, rfl⟩
  have hv3 : f.blocks.length ≠ 0 → ∃ b off cs e, some (⟨b3, o3, none⟩ : Addr) = some ⟨b, off, none⟩ ∧ B4.m b = some ⟨⟨cs⟩, e⟩ ∧ off + f.blocks.length * 9 ≤ cs.length ∧ takeV off (f.blocks.length * 9) cs = vs3 := fun _ => ⟨b3, o3, cs3, e3, rfl, old4.up hd _ _ hm3, hl3, hvs3⟩
  ((with_reducible apply W.seq); repeat (first | ((with_reducible apply RS.load1B); exact rfl; exact rfl; exact rfl; exact hF; exact hFn; exact rfl) | ((with_reducible apply RS.copyNil (vs := vs3)); exact rfl; exact rfl; exact rfl; exact rfl; exact rfl; exact rfl; exact fun B hB => vs_up hv3 hB.up; omega; omega; intro B5 hB5 A3' c3' H5 π5 sH5 hz5 hn5 hle5 hoff5) | ((with_reducible apply RS.assign); exact rfl; exact rfl; exact rfl) | ((with_reducible apply RS.fieldAddr); exact rfl; exact rfl; exact rfl) | ((with_reducible apply RS.nil); exact mixed; kernel_rfl) | ((with_reducible apply W.reg); kernel_rfl) | ((with_reducible apply thenK_n))))
  obtain ⟨bb, rfl, rfl, hbb, hbm⟩ := hn5 (by omega)
  have hvl3 : vs3.length = f.blocks.length * 9 := by rw [← hvs3, takeV_eq]; simp; omega
  obtain ⟨g1, g2, g3, g4⟩ := chunks_ok 9 f.blocks.length vs3 hvl3
  generalize chunks 9 f.blocks.length vs3 = R at *
  have hRb : ∀ (i : Nat) (b : BlockS), f.blocks[i]? = some b → ∃ A c, R[i]? = some (blockC b A c) ∧ SlAt h A 12 b.ins (insR h) := by
    intro i b hb
    have hi := (List.getElem?_eq_some_iff.1 hb).1
    obtain ⟨A, c, h1, h2⟩ := hR3 i b hb
    refine ⟨A, c, ?_, h2⟩
    rw [g4 i hi, ← h1, ← hvs3]
    congr 1
    have hle : i * 9 + 9 ≤ f.blocks.length * 9 := by rw [← Nat.succ_mul]; exact Nat.mul_le_mul_right _ hi
    rw [takeV_eq, takeV_eq, takeV_eq, List.drop_take, List.drop_drop, List.take_take, Nat.min_eq_left (by omega)]
  obtain ⟨FX, hFX⟩ : ∃ FX : Hp → Prop, ∀ B, FX B ↔ (Old h B ∧ B.m fb = some ⟨⟨funcC f A1' c1' A2' c2' (some ⟨b3, o3, none⟩) c3⟩, 35⟩ ∧ B.m rb = some ⟨⟨cellsV (.agg ⟨funcC ⟨⟨#[]⟩, 0, 0, 0, [], []⟩ none 0 none 0 none 0⟩)⟩, 35⟩ ∧ (f.secret ≠ 0 → ∃ r, A1' = some ⟨r, 0, none⟩ ∧ h.n ≤ r ∧ B.m r = some ⟨⟨vs1⟩, 4⟩) ∧ (f.slots.length ≠ 0 → ∃ r, A2' = some ⟨r, 0, none⟩ ∧ h.n ≤ r ∧ B.m r = some ⟨⟨vs2⟩, 3⟩)) := ⟨_, fun B => Iff.rfl⟩
  have FXup : ∀ {B B' : Hp}, FX B → Old h B' → (∀ j x, B.m j = some x → x.elem ≠ 47 → x.elem ≠ 64 → B'.m j = some x) → FX B' := by
    intro B B' hf ho hk
    rw [hFX] at hf ⊢
    obtain ⟨k1, k2, k3, k4, k5⟩ := hf
    refine ⟨ho, hk _ _ k2 (by simp) (by simp), hk _ _ k3 (by simp) (by simp), fun hn => ?_, fun hn => ?_⟩
    · obtain ⟨r, q1, q2, q3⟩ := k4 hn
      exact ⟨r, q1, q2, hk _ _ q3 (by simp) (by simp)⟩
    · obtain ⟨r, q1, q2, q3⟩ := k5 hn
      exact ⟨r, q1, q2, hk _ _ q3 (by simp) (by simp)⟩
  have FXold : ∀ {B : Hp}, FX B → Old h B := fun hf => ((hFX _).1 hf).1
  have kp5 : ∀ {j : Nat} {x : Blk}, B4.m j = some x → H5.m j = some x := by
    intro j x hx
    rw [hoff5 j (hB5.dom _ _ (hB5.up _ _ hx))]
    exact hB5.up _ _ hx
  have old5 : Old h H5 := (old4.trans hB5.oldH).trans ⟨hle5, hoff5⟩
  have hbbn : h.n ≤ bb := Nat.le_trans old4.1 (Nat.le_trans hB5.le hbb)
  have hbbr : rwM ≤ bb := Nat.le_trans s0.rw hbbn
  have hFX5 : FX H5 := by
    rw [hFX]
    refine ⟨old5, kp5 hF, kp5 hRb4, fun hn => ?_, fun hn => ?_⟩
    · obtain ⟨r, q1, q2, q3⟩ := hA1 hn
      exact ⟨r, q1, q2, kp5 q3⟩
    · obtain ⟨r, q1, q2, q3⟩ := hA2 hn
      exact ⟨r, q1, q2, kp5 q3⟩
  clear hF hFn hRb2 hRb4 kp1 kp2 kp5 hA1 hA2 hn1 hn3 hn5 hoff1 hoff3 hoff5
  ((with_reducible apply W.seq); repeat (fail))
  ((with_reducible apply W.seq); repeat (first | ((with_reducible apply RS.move); exact rfl; exact rfl; exact rfl) | ((with_reducible apply RS.lenSl); exact rfl; exact rfl; exact rfl) | ((with_reducible apply RS.nil); exact mixed; kernel_rfl) | ((with_reducible apply W.reg); kernel_rfl) | ((with_reducible apply W.block)) | ((with_reducible apply thenK_n))))
  refine W.loopN (X := Nat × List BV) (fun x => [(1, .pointer (some ⟨fb, 0, none⟩)), (2, .pointer (some ⟨rb, 0, none⟩)), (3, .slice (some ⟨bb, 0, none⟩) f.blocks.length (capOf 9)), (18, .int .i64 (f.blocks.length : Int)), (19, .int .i64 (x.1 : Int))])
    (fun x B => x.1 ≤ f.blocks.length ∧ x.2.length = x.1 ∧ sL x.2 = f.blocks.take x.1 ∧ FX B ∧ B.m bb = some ⟨⟨(x.2.map BV.c ++ R.drop x.1).flatten⟩, 47⟩ ∧ OwnD B h.n x.2) (fun x => f.blocks.length - x.1)
    (fun B' a => ⟨(0, []), ?_, ⟨Nat.zero_le _, rfl, by rw [List.take_zero]; rfl, FXup hFX5 (old5.trans a.oldH) fun j x hx _ _ => a.up _ _ hx, a.up _ _ (by rw [hbm, ← g1]; rfl), ⟨(fun b hb => by cases hb), (fun b hb => by cases hb), List.Pairwise.nil, List.Pairwise.nil⟩⟩⟩) ?_
  · (repeat' (first | exact trivial | exact rfl | apply And.intro)); done
  rintro ⟨i, dn⟩ B π6 sB ⟨hi, hdl, hds, hfx, hO, od⟩
  dsimp only at hi hdl hds hfx hO od ⊢
  have hOn := sB.dom _ _ hO
  have hL9 : ∀ c ∈ dn.map BV.c ++ R.drop i, c.length = 9 := by
    intro c hc
    rcases List.mem_append.1 hc with e | e
    · exact bv_wid dn c e
    · exact g3 c (List.mem_of_mem_drop e)
  have hLl : (dn.map BV.c ++ R.drop i).length = f.blocks.length := by simp [hdl, g2]; omega
  by_cases hlt : i < f.blocks.length
  · obtain ⟨b, hb⟩ : ∃ b, f.blocks[i]? = some b := ⟨_, List.getElem?_eq_getElem hlt⟩
    obtain ⟨A, c, hRi, hsl⟩ := hRb i b hb
    have hbi := hb4 b (List.mem_of_getElem? hb)
    have hLi : (dn.map BV.c ++ R.drop i)[i]? = some (blockC b A c) := by
      rw [List.getElem?_append_right (by simp [hdl]), List.length_map, hdl, Nat.sub_self, List.getElem?_drop, Nat.add_zero]
      exact hRi
    have hO0 : (dn.map BV.c ++ R.drop i).flatten[0 + i * 9 + 0]? = some (.slice A b.ins.length c) := by
      rw [Nat.zero_add, flat_get hL9 i 0 (by decide), hLi]; rfl
    obtain ⟨vs4, hv4⟩ := slat_vs hsl
    replace hv4 : b.ins.length ≠ 0 → ∃ q off cs e, A = some ⟨q, off, none⟩ ∧ B.m q = some ⟨⟨cs⟩, e⟩ ∧ off + b.ins.length * 12 ≤ cs.length ∧ takeV off (b.ins.length * 12) cs = vs4 := vs_up (fun hn => hv4 (fun e => hn (by rw [e]; rfl))) ((FXold hfx).up hd)
    ((with_reducible apply W.seq); repeat (first | ((with_reducible apply RS.cmpT); exact rfl; exact rfl; exact rfl; exact rfl; (simp only [cmpP]; omega)) | ((with_reducible apply RS.nil); exact mixed; kernel_rfl) | ((with_reducible apply W.reg); kernel_rfl) | ((with_reducible apply thenK_n))))
    ((with_reducible apply W.seq); repeat (first | ((with_reducible apply W.skip)) | ((with_reducible apply W.condT); kernel_rfl; exact rfl) | ((with_reducible apply thenK_n))))
    ((with_reducible apply W.seq); repeat (first | ((with_reducible apply W.block))))
    ((with_reducible apply W.seq); repeat (first | ((with_reducible apply RS.move); exact rfl; exact rfl; exact rfl) | ((with_reducible apply RS.assign); exact rfl; exact rfl; exact rfl) | ((with_reducible apply RS.nil); exact mixed; kernel_rfl) | ((with_reducible apply W.reg); kernel_rfl) | ((with_reducible apply thenK_n))))
    ((with_reducible apply W.seq); repeat (first | ((with_reducible apply RS.indexAddrS); exact rfl; exact rfl; exact rfl; exact rfl; exact rfl; omega) | ((with_reducible apply RS.load1B); exact rfl; exact rfl; exact rfl; exact hO; exact hOn; exact hO0) | ((with_reducible apply RS.copyNil (vs := vs4)); exact rfl; exact rfl; exact rfl; exact rfl; exact rfl; exact rfl; exact fun B hB => vs_up hv4 hB.up; omega; omega; intro B7 hB7 A4 c4 H7 π7 sH7 hz7 hn7 hle7 hoff7; have hO7 := (hoff7 bb (hB7.dom _ _ (hB7.up _ _ hO))).trans (hB7.up _ _ hO); have hO7n := sH7.dom _ _ hO7) | ((with_reducible apply RS.storeB); exact rfl; exact rfl; exact rfl; exact hO7; exact hO7n; exact hbbr; exact cell_le hL9 hLi (o := 0) (by decide); exact rfl; exact rfl; exact cell_put hL9 hLi (o := 0) (y := blockC b A4 c4) (by decide) rfl) | ((with_reducible apply RS.move); exact rfl; exact rfl; exact rfl) | ((with_reducible apply RS.fieldAddr); exact rfl; exact rfl; exact rfl) | ((with_reducible apply RS.nil); exact mixed; kernel_rfl) | ((with_reducible apply W.reg); kernel_rfl) | ((with_reducible apply thenK_n))))
    refine W.absorbX fun B8 π8 a8 => ?_
    have hO8 : B8.m bb = some ⟨⟨((dn.map BV.c ++ R.drop i).set i (blockC b A4 c4)).flatten⟩, 47⟩ := a8.up _ _ (by show (if bb = bb then _ else _) = _; rw [if_pos rfl])
    have hO8n := a8.dom _ _ hO8
    have hLs9 : ∀ c ∈ (dn.map BV.c ++ R.drop i).set i (blockC b A4 c4), c.length = 9 := by
      intro c hc
      rcases mem_set hc with e | e
      · exact hL9 c e
      · rw [e]; rfl
    have hLsi : ((dn.map BV.c ++ R.drop i).set i (blockC b A4 c4))[i]? = some (blockC b A4 c4) := by rw [List.getElem?_set, if_pos rfl, if_pos (by rw [hLl]; exact hlt)]
    have hO80 : ((dn.map BV.c ++ R.drop i).set i (blockC b A4 c4)).flatten[0 + i * 9 + 0]? = some (.slice A4 b.ins.length c4) := by
      rw [Nat.zero_add, flat_get hLs9 i 0 (by decide), hLsi]; rfl
    have kp8 : ∀ {j : Nat} {x : Blk}, B.m j = some x → j ≠ bb → B8.m j = some x := by
      intro j x hx hne
      refine a8.up _ _ ?_
      show (if j = bb then _ else H7.m j) = _
      rw [if_neg hne, hoff7 j (hB7.dom _ _ (hB7.up _ _ hx))]
      exact hB7.up _ _ hx
    have o7 : Old h H7 := ((FXold hfx).trans hB7.oldH).trans ⟨hle7, hoff7⟩
    have old8 : Old h B8 := ((o7.off.same ((OffS.set _ bb _).mono (T := fun j => h.n ≤ j) fun j _ e => by rw [e]; exact hbbn)).old fun j hj e => by omega).trans a8.oldH
    have hfx8 : FX B8 := FXup hfx old8 fun j x hx h1 _ => kp8 hx (ne_of_elem hx hO (by simpa using h1))
    have od8 : OwnD B8 h.n dn := ⟨fun x hx hn => ⟨(od.row x hx hn).1, kp8 (od.row x hx hn).2 (ne_of_elem (od.row x hx hn).2 hO (by simp))⟩, fun x hx y hy hn => ⟨(od.arg x hx y hy hn).1, kp8 (od.arg x hx y hy hn).2 (ne_of_elem (od.arg x hx y hy hn).2 hO (by simp))⟩, od.sep, od.sepA⟩
    have hBle : B.n ≤ B7.n := hB7.le
    have hrow8 : b.ins.length ≠ 0 → ∃ r, A4 = some ⟨r, 0, none⟩ ∧ c4 = capOf 12 ∧ B.n ≤ r ∧ B8.m r = some ⟨⟨vs4⟩, 64⟩ := by
      intro hn
      obtain ⟨r, h1, h2, h3, h4⟩ := hn7 hn
      refine ⟨r, h1, h2, Nat.le_trans hBle h3, a8.up _ _ ?_⟩
      show (if r = bb then _ else H7.m r) = _
      rw [if_neg (by have := sB.dom _ _ hO; omega)]
      exact h4
    have hbl : ∀ {j : Nat} {x : Blk}, B.m j = some x → j < B.n := fun hx => sB.dom _ _ hx
    clear hn7 hoff7 kp8
    obtain ⟨r, hr⟩ : ∃ r, b.ins.length ≠ 0 → A4 = some ⟨r, 0, none⟩ ∧ c4 = capOf 12 ∧ B.n ≤ r ∧ B8.m r = some ⟨⟨vs4⟩, 64⟩ := by
      by_cases hn : b.ins.length = 0
      · exact ⟨0, fun h => absurd hn h⟩
      · obtain ⟨r, h1⟩ := hrow8 hn
        exact ⟨r, fun _ => h1⟩
    obtain ⟨R2, hR2⟩ : ∃ R2 : List (List Value), b.ins.length ≠ 0 → R2.flatten = vs4 ∧ R2.length = b.ins.length ∧ (∀ c ∈ R2, c.length = 12) ∧ ∀ (k : Nat) (x : InsS), b.ins[k]? = some x → ∃ A c, R2[k]? = some (insC x A c) ∧ SlAt h A 2 x.args argR := by
      by_cases hn : b.ins.length = 0
      · exact ⟨[], fun h => absurd hn h⟩
      · have hne : b.ins ≠ [] := fun e => hn (by rw [e]; rfl)
        obtain ⟨q, off, cs, e, q1, q2, q3, q4⟩ := slat_whole hsl hne
        obtain ⟨q', off', cs', e', p1, p2, p3, p4⟩ := hv4 hn
        rw [q1] at p1
        injection p1 with p1
        injection p1 with p5 p6
        subst p5; subst p6
        have q2' := (FXold hfx).up hd _ _ q2
        rw [q2'] at p2
        injection p2 with p2
        injection p2 with p7 _
        injection p7 with p7
        subst p7
        have hvl4 : vs4.length = b.ins.length * 12 := by rw [← p4, takeV_eq]; simp; omega
        obtain ⟨k1, k2, k3, k4⟩ := chunks_ok 12 b.ins.length vs4 hvl4
        refine ⟨_, fun _ => ⟨k1, k2, k3, fun k x hx => ?_⟩⟩
        have hk := (List.getElem?_eq_some_iff.1 hx).1
        obtain ⟨A9, c9, j1, j2⟩ := q4 k x hx
        refine ⟨A9, c9, ?_, j2⟩
        rw [k4 k hk, ← j1, ← p4]
        congr 1
        have hle : k * 12 + 12 ≤ b.ins.length * 12 := by rw [← Nat.succ_mul]; exact Nat.mul_le_mul_right _ hk
        rw [takeV_eq, takeV_eq, takeV_eq, List.drop_take, List.drop_drop, List.take_take, Nat.min_eq_left (by omega)]
    ((with_reducible apply W.seq); repeat (first | ((with_reducible apply RS.indexAddrS); exact rfl; exact rfl; exact rfl; exact rfl; exact rfl; omega) | ((with_reducible apply RS.load1B); exact rfl; exact rfl; exact rfl; exact hO8; exact hO8n; exact hO80) | ((with_reducible apply RS.move); exact rfl; exact rfl; exact rfl) | ((with_reducible apply RS.lenSl); exact rfl; exact rfl; exact rfl) | ((with_reducible apply RS.fieldAddr); exact rfl; exact rfl; exact rfl) | ((with_reducible apply RS.nil); exact mixed; kernel_rfl) | ((with_reducible apply W.reg); kernel_rfl) | ((with_reducible apply W.block)) | ((with_reducible apply thenK_n))))
    refine W.loopN (X := Nat × List InsV) (fun x => [(1, .pointer (some ⟨fb, 0, none⟩)), (2, .pointer (some ⟨rb, 0, none⟩)), (3, .slice (some ⟨bb, 0, none⟩) f.blocks.length (capOf 9)), (18, .int .i64 (f.blocks.length : Int)), (19, .int .i64 (i : Int)), (4, .int .i64 (i : Int)), (37, .int .i64 (b.ins.length : Int)), (38, .int .i64 (x.1 : Int))])
      (fun x B => x.1 ≤ b.ins.length ∧ x.2.length = x.1 ∧ x.2.map (·.1) = b.ins.take x.1 ∧ FX B ∧ B.m bb = some ⟨⟨((dn.map BV.c ++ R.drop i).set i (blockC b A4 c4)).flatten⟩, 47⟩ ∧ OwnD B h.n dn ∧ (b.ins.length ≠ 0 → B.m r = some ⟨⟨(x.2.map insVC ++ R2.drop x.1).flatten⟩, 64⟩) ∧ (∀ y ∈ x.2, y.1.args ≠ [] → h.n ≤ y.2 ∧ B.m y.2 = some ⟨⟨argsC y.1.args⟩, 43⟩) ∧ (dn.flatMap (·.ins) ++ x.2).Pairwise fun x y => x.1.args ≠ [] → y.1.args ≠ [] → x.2 < y.2) (fun x => b.ins.length - x.1)
      (fun B' a => ⟨(0, []), ?_, ⟨Nat.zero_le _, rfl, by rw [List.take_zero]; rfl, FXup hfx8 (old8.trans a.oldH) fun j x hx _ _ => a.up _ _ hx, a.up _ _ hO8, od8.up a.up, fun hn => a.up _ _ (by rw [(hr hn).2.2.2, ← (hR2 hn).1]; rfl), (fun y hy => by cases hy), by rw [List.append_nil]; exact od8.sepA⟩⟩) ?_
    · (repeat' (first | exact trivial | exact rfl | apply And.intro)); done
    rintro ⟨k, di⟩ B9 π9 sB9 ⟨hk, hdk, hdt, hfx9, hOa, od9, hRa, hdar, hsep⟩
    dsimp only at hk hdk hdt hfx9 hOa od9 hRa hdar hsep ⊢
    have hOan := sB9.dom _ _ hOa
    by_cases hkl : k < b.ins.length
    · have hn0 : b.ins.length ≠ 0 := by omega
      obtain ⟨rfl, rfl, hrn, hr8⟩ := hr hn0
      obtain ⟨k1, k2, k3, k4⟩ := hR2 hn0
      replace hRa := hRa hn0
      have hRan := sB9.dom _ _ hRa
      obtain ⟨x, hx⟩ : ∃ x, b.ins[k]? = some x := ⟨_, List.getElem?_eq_getElem hkl⟩
      obtain ⟨Ax, cx, hR2k, hargs⟩ := k4 k x hx
      have hxa := hb5 b (List.mem_of_getElem? hb) x (List.mem_of_getElem? hx)
      have hLR9 : ∀ c ∈ di.map insVC ++ R2.drop k, c.length = 12 := by
        intro c hc
        rcases List.mem_append.1 hc with e | e
        · exact ins_wid di c e
        · exact k3 c (List.mem_of_mem_drop e)
      have hLRk : (di.map insVC ++ R2.drop k)[k]? = some (insC x Ax cx) := by
        rw [List.getElem?_append_right (by simp [hdk]), List.length_map, hdk, Nat.sub_self, List.getElem?_drop, Nat.add_zero]
        exact hR2k
      have hRc : (di.map insVC ++ R2.drop k).flatten[0 + k * 12 + 11]? = some (.slice Ax x.args.length cx) := by
        rw [Nat.zero_add, flat_get hLR9 k 11 (by decide), hLRk]; rfl
      have hrw : rwM ≤ r := Nat.le_trans sB.rw hrn
      have hrh : h.n ≤ r := Nat.le_trans (FXold hfx).1 hrn
      have hdr : R2.drop k = insC x Ax cx :: R2.drop (k + 1) := by
        obtain ⟨q1, q2⟩ := List.getElem?_eq_some_iff.1 hR2k
        rw [List.drop_eq_getElem_cons q1, q2]
      have fin : ∀ (na : Nat) (B' : Hp), B'.m r = some ⟨⟨((di.map insVC ++ R2.drop k).set k (insVC (x, na))).flatten⟩, 64⟩ → (∀ j y, B9.m j = some y → j ≠ r → B'.m j = some y) → Old h B' → (x.args ≠ [] → B9.n ≤ na ∧ B'.m na = some ⟨⟨argsC x.args⟩, 43⟩) →
          k + 1 ≤ b.ins.length ∧ (di ++ [(x, na)]).length = k + 1 ∧ (di ++ [(x, na)]).map (·.1) = b.ins.take (k + 1) ∧ FX B' ∧ B'.m bb = some ⟨⟨((dn.map BV.c ++ R.drop i).set i (blockC b (some ⟨r, 0, none⟩) (capOf 12))).flatten⟩, 47⟩ ∧ OwnD B' h.n dn ∧ (b.ins.length ≠ 0 → B'.m r = some ⟨⟨((di ++ [(x, na)]).map insVC ++ R2.drop (k + 1)).flatten⟩, 64⟩) ∧ (∀ y ∈ di ++ [(x, na)], y.1.args ≠ [] → h.n ≤ y.2 ∧ B'.m y.2 = some ⟨⟨argsC y.1.args⟩, 43⟩) ∧ (dn.flatMap (·.ins) ++ (di ++ [(x, na)])).Pairwise fun x y => x.1.args ≠ [] → y.1.args ≠ [] → x.2 < y.2 := by
        intro na B' hBr hkeep hold hnew
        have hset : (di.map insVC ++ R2.drop k).set k (insVC (x, na)) = (di ++ [(x, na)]).map insVC ++ R2.drop (k + 1) := by
          rw [List.set_append_right _ _ (by simp [hdk]), List.length_map, hdk, Nat.sub_self, hdr, List.set_cons_zero, List.map_append, List.append_assoc]; rfl
        refine ⟨by omega, by simp [hdk], ?_, FXup hfx9 hold fun j y hy h1 h2 => hkeep j y hy (ne_of_elem hy hRa (by simpa using h2)), hkeep _ _ hOa (ne_of_elem hOa hRa (by simp)), ⟨fun z hz hn => ⟨(od9.row z hz hn).1, hkeep _ _ (od9.row z hz hn).2 ?_⟩, fun z hz y hy hn => ⟨(od9.arg z hz y hy hn).1, hkeep _ _ (od9.arg z hz y hy hn).2 (ne_of_elem (od9.arg z hz y hy hn).2 hRa (by simp))⟩, od9.sep, od9.sepA⟩, fun _ => by rw [hBr, hset], ?_, ?_⟩
        · obtain ⟨q1, q2⟩ := List.getElem?_eq_some_iff.1 hx
          rw [List.map_append, hdt, List.take_succ_eq_append_getElem q1, q2]; rfl
        · have := hbl (od.row z hz hn).2
          omega
        · intro y hy hyn
          rcases List.mem_append.1 hy with e | e
          · exact ⟨(hdar y e hyn).1, hkeep _ _ (hdar y e hyn).2 (ne_of_elem (hdar y e hyn).2 hRa (by simp))⟩
          · simp only [List.mem_singleton] at e
            subst e
            exact ⟨Nat.le_trans (FXold hfx9).1 (hnew hyn).1, (hnew hyn).2⟩
        · rw [← List.append_assoc, List.pairwise_append]
          refine ⟨hsep, List.pairwise_singleton _ _, fun y hy z hz hyn hzn => ?_⟩
          simp only [List.mem_singleton] at hz
          subst hz
          have h1 := (hnew hzn).1
          have h2 : y.2 < B9.n := by
            rcases List.mem_append.1 hy with e | e
            · obtain ⟨w, hw, hyw⟩ := List.mem_flatMap.1 e
              exact sB9.dom _ _ (od9.arg w hw y hyw hyn).2
            · exact sB9.dom _ _ (hdar y e hyn).2
          show y.2 < na
          omega
      have setr : ∀ z, Old h (B9.set r z) := fun z => ((FXold hfx9).off.same ((OffS.set B9 r z).mono (T := fun j => h.n ≤ j) fun j _ e => by rw [e]; exact hrh)).old fun j hj e => by omega
      by_cases hae : x.args = []
      · have hs0 : x.args.length = 0 := by rw [hae]; rfl
        obtain ⟨na, hna⟩ : ∃ na : Nat, na = 0 := ⟨0, rfl⟩
        have hput : (Value.slice none 0 0) = rowVl 2 na x.args := by rw [hae]; rfl
        repeat (first | ((with_reducible apply RS.indexAddrS); exact rfl; exact rfl; exact rfl; exact rfl; exact rfl; omega) | ((with_reducible apply RS.load1B); exact rfl; exact rfl; exact rfl; exact hOa; exact hOan; exact hO80) | ((with_reducible apply RS.load1B); exact rfl; exact rfl; exact rfl; exact hRa; exact hRan; exact hRc) | ((with_reducible apply RS.appendNil0); exact rfl; exact rfl; exact rfl; exact rfl; exact hs0; kernel_rfl) | ((with_reducible apply RS.storeB); exact rfl; exact rfl; exact rfl; exact hRa; exact hRan; exact hrw; exact cell_le hLR9 hLRk (o := 11) (by decide); exact rfl; exact rfl; exact cell_put hLR9 hLRk (o := 11) (y := insVC (x, na)) (by decide) (by unfold insVC; rw [← hput]; rfl)) | ((with_reducible apply RS.move); exact rfl; exact rfl; exact rfl) | ((with_reducible apply RS.assign); exact rfl; exact rfl; exact rfl) | ((with_reducible apply RS.cmpT); exact rfl; exact rfl; exact rfl; exact rfl; (simp only [cmpP]; omega)) | ((with_reducible apply RS.add1); exact rfl; exact rfl; exact rfl; exact rfl; omega) | ((with_reducible apply RS.fieldAddr); exact rfl; exact rfl; exact rfl) | ((with_reducible apply RS.nil); exact mixed; kernel_rfl) | ((with_reducible apply W.seq)) | ((with_reducible apply W.reg); kernel_rfl) | ((with_reducible apply W.block)) | ((with_reducible apply W.skip)) | ((with_reducible apply W.condT); kernel_rfl; exact rfl) | ((with_reducible apply thenK_n)) | ((with_reducible apply blockK_n)))
        refine roundN_n rfl fun B' a => ⟨(k + 1, di ++ [(x, na)]), ?_, fin na B' (a.up _ _ (by show (if r = r then _ else _) = _; rw [if_pos rfl])) (fun j y hy hne => a.up _ _ (by show (if j = r then _ else B9.m j) = _; rw [if_neg hne]; exact hy)) ((setr _).trans a.oldH) (fun hn => absurd hae hn), ?_⟩
        · (repeat' (first | exact trivial | exact rfl | apply And.intro)); done
        · show b.ins.length - (k + 1) < b.ins.length - k
          omega
      · obtain ⟨q, off, cs, e, rfl, hq2', hq3, hq5⟩ := slat_whole hargs hae
        have hq2 := (FXold hfx9).up hd _ _ hq2'
        have hq2n := sB9.dom _ _ hq2
        have hq4 : takeV off (x.args.length * 2) cs = argsC x.args := rows_eq hq3 fun i a ha => hq5 i a ha
        have hapos : 0 < x.args.length := List.length_pos_iff.2 hae
        obtain ⟨na, hna⟩ : ∃ na : Nat, na = π9 0 := ⟨_, rfl⟩
        have hput : (Value.slice (some ⟨π9 0, 0, none⟩) x.args.length (capOf 2)) = rowVl 2 na x.args := by rw [hna, rowVl_ne hae]
        repeat (first | ((with_reducible apply RS.indexAddrS); exact rfl; exact rfl; exact rfl; exact rfl; exact rfl; omega) | ((with_reducible apply RS.load1B); exact rfl; exact rfl; exact rfl; exact hOa; exact hOan; exact hO80) | ((with_reducible apply RS.load1B); exact rfl; exact rfl; exact rfl; exact hRa; exact hRan; exact hRc) | ((with_reducible apply RS.appendNilB); exact rfl; exact rfl; exact rfl; exact rfl; exact rfl; exact rfl; exact hq2; exact hq2n; exact hq3; omega; omega; omega; exact hq4) | ((with_reducible apply RS.storeB); exact rfl; exact rfl; exact rfl; exact hRa; exact hRan; exact hrw; exact cell_le hLR9 hLRk (o := 11) (by decide); exact rfl; exact rfl; exact cell_put hLR9 hLRk (o := 11) (y := insVC (x, na)) (by decide) (by unfold insVC; rw [← hput]; rfl)) | ((with_reducible apply RS.move); exact rfl; exact rfl; exact rfl) | ((with_reducible apply RS.assign); exact rfl; exact rfl; exact rfl) | ((with_reducible apply RS.cmpT); exact rfl; exact rfl; exact rfl; exact rfl; (simp only [cmpP]; omega)) | ((with_reducible apply RS.add1); exact rfl; exact rfl; exact rfl; exact rfl; omega) | ((with_reducible apply RS.fieldAddr); exact rfl; exact rfl; exact rfl) | ((with_reducible apply RS.nil); exact mixed; kernel_rfl) | ((with_reducible apply W.seq)) | ((with_reducible apply W.reg); kernel_rfl) | ((with_reducible apply W.block)) | ((with_reducible apply W.skip)) | ((with_reducible apply W.condT); kernel_rfl; exact rfl) | ((with_reducible apply thenK_n)) | ((with_reducible apply blockK_n)))
        refine roundN_n rfl fun B' a => ?_
        have hlo : B9.n ≤ π9 0 := a.lo 0 (Nat.lt_succ_self 0)
        have hloc : B'.m (π9 0) = some ⟨⟨argsC x.args⟩, 43⟩ := a.loc 0 (Nat.lt_succ_self 0)
        refine ⟨(k + 1, di ++ [(x, na)]), ?_, fin na B' (a.up _ _ (by show (if r = r then _ else _) = _; rw [if_pos rfl])) (fun j y hy hne => a.up _ _ (by show (if j = r then _ else B9.m j) = _; rw [if_neg hne]; exact hy)) ((setr _).trans a.oldH) (fun _ => by rw [hna]; exact ⟨hlo, hloc⟩), ?_⟩
        · (repeat' (first | exact trivial | exact rfl | apply And.intro)); done
        · show b.ins.length - (k + 1) < b.ins.length - k
          omega
    · have hkk : k = b.ins.length := by omega
      rw [hkk, List.take_length] at hdt
      have hbs : (⟨di, r, b.term⟩ : BV).s = b := by unfold BV.s; rw [hdt]
      have hde : di = [] ↔ b.ins.length = 0 := by
        rw [← List.length_eq_zero_iff]; omega
      have hbc : (⟨di, r, b.term⟩ : BV).c = blockC b A4 c4 := by
        rw [BVc_eq, hbs]
        unfold BV.A BV.k
        by_cases hn0 : b.ins.length = 0
        · obtain ⟨e1, e2⟩ := hz7 hn0
          have : di = [] := hde.2 hn0
          subst this
          rw [e1, e2]; rfl
        · obtain ⟨e1, e2, _, _⟩ := hr hn0
          have : di ≠ [] := fun e => hn0 (hde.1 e)
          rw [if_neg this, if_neg this, e1, e2]
      have hdrR : R.drop i = blockC b A c :: R.drop (i + 1) := by
        obtain ⟨q1, q2⟩ := List.getElem?_eq_some_iff.1 hRi
        rw [List.drop_eq_getElem_cons q1, q2]
      have hset : (dn.map BV.c ++ R.drop i).set i (blockC b A4 c4) = (dn ++ [(⟨di, r, b.term⟩ : BV)]).map BV.c ++ R.drop (i + 1) := by
        rw [List.set_append_right _ _ (by simp [hdl]), List.length_map, hdl, Nat.sub_self, hdrR, List.set_cons_zero, List.map_append, List.append_assoc, ← hbc]; rfl
      rw [hset] at hOa
      repeat (first | ((with_reducible apply RS.move); exact rfl; exact rfl; exact rfl) | ((with_reducible apply RS.cmpF); exact rfl; exact rfl; exact rfl; exact rfl; (simp only [cmpN]; omega)) | ((with_reducible apply RS.add1); exact rfl; exact rfl; exact rfl; exact rfl; omega) | ((with_reducible apply RS.nil); exact mixed; kernel_rfl) | ((with_reducible apply W.seq)) | ((with_reducible apply W.reg); kernel_rfl) | ((with_reducible apply W.exit)) | ((with_reducible apply W.condF); kernel_rfl; exact rfl) | ((with_reducible apply thenK_n)) | ((with_reducible apply thenK_e)) | ((with_reducible apply blockK_n)) | ((with_reducible apply blockK_hit); exact rfl) | ((with_reducible apply roundN_e)))
      refine roundN_n rfl fun B' a => ⟨(i + 1, dn ++ [⟨di, r, b.term⟩]), ?_, ⟨by omega, by simp [hdl], ?_, FXup hfx9 ((FXold hfx9).trans a.oldH) fun j x hx _ _ => a.up _ _ hx, a.up _ _ hOa, ?_⟩, ?_⟩
      · (repeat' (first | exact trivial | exact rfl | apply And.intro)); done
      · show sL (dn ++ [⟨di, r, b.term⟩]) = f.blocks.take (i + 1)
        obtain ⟨q1, q2⟩ := List.getElem?_eq_some_iff.1 hb
        have e : sL (dn ++ [⟨di, r, b.term⟩]) = sL dn ++ [(⟨di, r, b.term⟩ : BV).s] := by simp [sL]
        rw [e, hds, hbs, List.take_succ_eq_append_getElem q1, q2]
      · have od10 := od9.up a.up
        have hr10 : di ≠ [] → h.n ≤ r ∧ B'.m r = some ⟨⟨(di.map insVC).flatten⟩, 64⟩ := by
          intro hn
          have hn0 : b.ins.length ≠ 0 := fun e => hn (hde.2 e)
          refine ⟨Nat.le_trans (FXold hfx).1 (hr hn0).2.2.1, a.up _ _ ?_⟩
          rw [hRa hn0, List.drop_eq_nil_of_le (by rw [(hR2 hn0).2.1]; omega), List.append_nil]
        refine ⟨fun z hz hn => ?_, fun z hz y hy hn => ?_, ?_, ?_⟩
        · rcases List.mem_append.1 hz with e | e
          · exact od10.row z e hn
          · simp only [List.mem_singleton] at e
            subst e
            exact hr10 hn
        · rcases List.mem_append.1 hz with e | e
          · exact od10.arg z e y hy hn
          · simp only [List.mem_singleton] at e
            subst e
            exact ⟨(hdar y hy hn).1, a.up _ _ (hdar y hy hn).2⟩
        · rw [List.pairwise_append]
          refine ⟨od9.sep, List.pairwise_singleton _ _, fun y hy z hz hyn hzn => ?_⟩
          simp only [List.mem_singleton] at hz
          subst hz
          have hn0 : b.ins.length ≠ 0 := fun e => hzn (hde.2 e)
          have h1 := hbl (od.row y hy hyn).2
          have h2 := (hr hn0).2.2.1
          show y.r < r
          omega
        · rw [List.flatMap_append]
          simpa using hsep
      · show f.blocks.length - (i + 1) < f.blocks.length - i
        omega
  · have hii : i = f.blocks.length := by omega
    have hds' : sL dn = f.blocks := by rw [hds, hii, List.take_length]
    have hRn : R.drop i = [] := List.drop_eq_nil_of_le (by rw [g2]; omega)
    rw [hRn, List.append_nil] at hO
    obtain ⟨oldB, hF9, hRb9, hA1, hA2⟩ := (hFX _).1 hfx
    have hF9n := sB.dom _ _ hF9
    have hRb9n := sB.dom _ _ hRb9
    have hFF : ∀ X, (B.set fb X).m fb = some X := fun X => by show (if fb = fb then _ else _) = _; rw [if_pos rfl]
    have hRR : ∀ X, (B.set fb X).m rb = some ⟨⟨cellsV (.agg ⟨funcC ⟨⟨#[]⟩, 0, 0, 0, [], []⟩ none 0 none 0 none 0⟩)⟩, 35⟩ := fun X => by
      show (if rb = fb then _ else B.m rb) = _
      rw [if_neg (fun e => hfr e.symm)]; exact hRb9
    repeat (first | ((with_reducible apply RS.storeB); exact rfl; exact rfl; exact rfl; exact hF9; exact hF9n; exact hFw; exact Nat.le_of_ble_eq_true rfl; exact rfl; exact rfl; exact (show setL (funcC f A1' c1' A2' c2' (some ⟨b3, o3, none⟩) c3) (0 + 5) [.slice (some ⟨bb, 0, none⟩) f.blocks.length (capOf 9)] = funcC f A1' c1' A2' c2' (some ⟨bb, 0, none⟩) (capOf 9) from rfl)) | ((with_reducible apply RS.loadNB); exact rfl; exact rfl; exact rfl; exact hFF _; exact hF9n; exact Nat.le_of_ble_eq_true rfl; exact rfl) | ((with_reducible apply RS.storeB); exact rfl; exact rfl; exact rfl; exact hRR _; exact hRb9n; exact hRw; exact Nat.le_of_ble_eq_true rfl; exact rfl; exact rfl; exact rfl) | ((with_reducible apply RS.move); exact rfl; exact rfl; exact rfl) | ((with_reducible apply RS.cmpF); exact rfl; exact rfl; exact rfl; exact rfl; (simp only [cmpN]; omega)) | ((with_reducible apply RS.fieldAddr); exact rfl; exact rfl; exact rfl) | ((with_reducible apply RS.nil); exact mixed; kernel_rfl) | ((with_reducible apply W.seq)) | ((with_reducible apply W.reg); kernel_rfl) | ((with_reducible apply W.exit)) | ((with_reducible apply W.ret)) | ((with_reducible apply W.condF); kernel_rfl; exact rfl) | ((with_reducible apply thenK_n)) | ((with_reducible apply thenK_e)) | ((with_reducible apply blockK_hit); exact rfl) | ((with_reducible apply roundN_e)))
    have keepZ : ∀ (X Y : Blk) {j : Nat} {x : Blk}, B.m j = some x → x.elem ≠ 35 → ((B.set fb X).set rb Y).m j = some x := by
      intro X Y j x hx he
      show (if j = rb then _ else (if j = fb then _ else B.m j)) = _
      rw [if_neg (ne_of_elem hx hRb9 he), if_neg (ne_of_elem hx hF9 he)]
      exact hx
    refine endsK_ret _ (.cons (.baseN (vs := funcC f A1' c1' A2' c2' (some ⟨bb, 0, none⟩) (capOf 9)) rfl (by show (if rb = rb then _ else _) = _; rw [if_pos rfl]) (Nat.le_of_ble_eq_true rfl) rfl) .nil) fun B' a => ⟨A1', c1', A2', c2', bb, dn, rfl, a.up _ _ (keepZ _ _ hO (by simp)), hbbn, ?_, hds', ?_, ?_, ?_⟩
    · exact ⟨fun z hz hn => ⟨(od.row z hz hn).1, a.up _ _ (keepZ _ _ (od.row z hz hn).2 (by simp))⟩, fun z hz y hy hn => ⟨(od.arg z hz y hy hn).1, a.up _ _ (keepZ _ _ (od.arg z hz y hy hn).2 (by simp))⟩, od.sep, od.sepA⟩
    · exact ((oldB.off.same (S := fun j => h.n ≤ j) ((OffS.set B fb _).mono fun j _ e => by rw [e]; exact hfb)).same ((OffS.set _ rb _).mono fun j _ e => by rw [e]; exact hrb)).same a.oldH.off |>.old fun j hj e => by omega
    · by_cases hn : sec = []
      · exact .inl hn
      obtain ⟨r, q1, q2, q3⟩ := hA1 (by rw [← hsec]; exact fun e => hn (List.length_eq_zero_iff.1 e))
      exact .inr ⟨r, q1, q2, a.up _ _ (keepZ _ _ (by rw [q3, slat_map hS hcp1 hn fun _ _ h => h]) (by simp))⟩
    · by_cases hn : f.slots = []
      · exact .inl hn
      obtain ⟨r, q1, q2, q3⟩ := hA2 (fun e => hn (List.length_eq_zero_iff.1 e))
      exact .inr ⟨r, q1, q2, a.up _ _ (keepZ _ _ (by rw [q3, slat_map hL hcp2 hn fun _ _ h => h]) (by simp))⟩
end Go.Proofs.Ytjhloakacicdiaa
namespace Go.Proofs.Ytjhloakacicdiaa
open Go.AH
attribute [local irreducible] W RS
def setV (L : Nat) (a : Nat) : Value := .slice (some ⟨a, 0, none⟩) L L
structure SetsAt (h : Hp) (N ib : Nat) (al : List Nat) (ss : List SetS) (L : Nat) : Prop where
  m : h.m ib = some ⟨⟨al.map (setV L)⟩, 38⟩
  len : al.length = ss.length
  pt : ∀ (i a : Nat) (s : SetS), al[i]? = some a → ss[i]? = some s → h.m a = some ⟨⟨setC s⟩, 78⟩ ∧ s.length = L ∧ N ≤ a
theorem SetsAt.up {h H : Hp} {N ib : Nat} {al : List Nat} {ss : List SetS} {L : Nat} (s : SetsAt h N ib al ss L) (hu : ∀ i b, h.m i = some b → H.m i = some b) : SetsAt H N ib al ss L :=
  ⟨hu _ _ s.m, s.len, fun i a x h1 h2 => ⟨hu _ _ (s.pt i a x h1 h2).1, (s.pt i a x h1 h2).2⟩⟩
theorem SetsAt.set {h : Hp} {N ib : Nat} {al : List Nat} {ss : List SetS} {L : Nat} (s : SetsAt h N ib al ss L) (hd : al.Nodup) {i a : Nat} (ha : al[i]? = some a) {x : SetS} (hx : x.length = L) : SetsAt (h.set a ⟨⟨setC x⟩, 78⟩) N ib al (ss.set i x) L := by
  have hi := (List.getElem?_eq_some_iff.1 ha).1
  obtain ⟨y, hy⟩ : ∃ y, ss[i]? = some y := ⟨_, List.getElem?_eq_getElem (by rw [← s.len]; exact hi)⟩
  have hm := (s.pt i a y ha hy).1
  refine ⟨?_, by rw [List.length_set]; exact s.len, fun j b z h1 h2 => ?_⟩
  · show (if ib = a then _ else h.m ib) = _
    rw [if_neg (ne_of_elem s.m hm (by simp))]
    exact s.m
  · rw [List.getElem?_set] at h2
    by_cases e : i = j
    · subst e
      rw [if_pos rfl, if_pos (by rw [← s.len]; exact hi)] at h2
      injection h2 with h2
      subst h2
      rw [ha] at h1
      injection h1 with h1
      subst h1
      exact ⟨by show (if a = a then _ else _) = _; rw [if_pos rfl], hx, (s.pt i a y ha hy).2.2⟩
    · rw [if_neg e] at h2
      have hne : b ≠ a := by
        intro e2
        subst e2
        exact e ((List.getElem?_inj hi hd).1 (by rw [ha, h1]))
      exact ⟨by show (if b = a then _ else h.m b) = _; rw [if_neg hne]; exact (s.pt j b z h1 h2).1, (s.pt j b z h1 h2).2⟩
theorem SetsAt.other {h : Hp} {N ib : Nat} {al : List Nat} {ss : List SetS} {L : Nat} (s : SetsAt h N ib al ss L) {a : Nat} {b : Blk} (hb : h.m a = some b) (he : b.elem = 78) (ha : a ∉ al) (z : Blk) : SetsAt (h.set a z) N ib al ss L := by
  refine ⟨?_, s.len, fun j c x h1 h2 => ?_⟩
  · show (if ib = a then _ else h.m ib) = _
    rw [if_neg (ne_of_elem s.m hb (by rw [he]; simp))]
    exact s.m
  · have hne : c ≠ a := fun e => ha (by rw [← e]; exact List.mem_of_getElem? h1)
    exact ⟨by show (if c = a then _ else h.m c) = _; rw [if_neg hne]; exact (s.pt j c x h1 h2).1, (s.pt j c x h1 h2).2⟩
theorem empty_at {h : SH} {n : Int} (h0 : 0 ≤ n) (h1 : n ≤ 1000000) (H : Hp) (hH : Sees h true [] H) : TF Try.prog 30 ⟨[.int .i64 n]⟩ H (.slice (some ⟨h.π h.k, 0, none⟩) (emptyS n).length (emptyS n).length) (H.push ⟨⟨setC (emptyS n)⟩, 78⟩) := by
  have := empty_tf n h0 h1 H
  rw [hH.n] at this; exact this
theorem rep_nil (n : Nat) : repL (cellsV (.slice none 0 0)) n = List.replicate n (.slice none 0 0) := by
  induction n with
  | zero => rfl
  | succ n ih => rw [repL, ih, List.replicate_succ]; rfl
theorem cells_set1 (l : List Value) (i : Nat) (v : Value) : setL l (0 + i * 1) [v] = l.set i v := by
  rw [setL_cons, setL_nil, Nat.zero_add, Nat.mul_one]
def partV (L n : Nat) (al : List Nat) : List Value := al.map (setV L) ++ List.replicate (n - al.length) (.slice none 0 0)
theorem partV_set {L n : Nat} {al : List Nat} {a : Nat} (h : al.length < n) : (partV L n al).set al.length (setV L a) = partV L n (al ++ [a]) := by
  unfold partV
  obtain ⟨m, hm⟩ : ∃ m, n - al.length = m + 1 := ⟨n - al.length - 1, by omega⟩
  rw [hm, List.set_append_right _ _ (by simp), List.length_map, Nat.sub_self, List.replicate_succ, List.set_cons_zero, List.map_append, List.length_append]
  have : n - (al.length + [a].length) = m := by simp; omega
  rw [this]; simp
theorem partV_len {L n : Nat} {al : List Nat} (h : al.length ≤ n) : (partV L n al).length = n := by unfold partV; simp; omega
structure Fill (h : Hp) (N ib ob n L : Nat) (E : SetS) (ai ao : List Nat) (B : Hp) : Prop where
  old : Old h B
  mi : B.m ib = some ⟨⟨partV L n ai⟩, 38⟩
  mo : B.m ob = some ⟨⟨partV L n ao⟩, 38⟩
  pt : ∀ a ∈ ai ++ ao, B.m a = some ⟨⟨setC E⟩, 78⟩ ∧ N ≤ a
  nd : (ai ++ ao).Nodup
theorem Fill.up {h : Hp} {N ib ob n L : Nat} {E : SetS} {ai ao : List Nat} {B B' : Hp} (s : Fill h N ib ob n L E ai ao B) (hd : ∀ i x, B.m i = some x → i < B.n) (o : Old B B') : Fill h N ib ob n L E ai ao B' :=
  ⟨s.old.trans o, o.up hd _ _ s.mi, o.up hd _ _ s.mo, fun a ha => ⟨o.up hd _ _ (s.pt a ha).1, (s.pt a ha).2⟩, s.nd⟩
def muS (s : SetS) : Nat := (s.map fun w => 2 ^ 64 - w.toNat).sum
def muL (l : List SetS) : Nat := (l.map muS).sum
theorem or_ge (a b : BitVec 64) : a.toNat ≤ (a ||| b).toNat := by
  rw [BitVec.toNat_or]; exact Nat.left_le_or
theorem muS_join : ∀ (s t : SetS), muS (joinS s t) ≤ muS s ∧ (joinS s t ≠ s → muS (joinS s t) < muS s)
  | [], [] => ⟨Nat.le_refl _, fun h => absurd rfl h⟩
  | [], _ :: _ => ⟨Nat.le_refl _, fun h => absurd rfl h⟩
  | w :: s, [] => ⟨Nat.le_refl _, fun h => absurd rfl h⟩
  | w :: s, o :: t => by
    obtain ⟨h1, h2⟩ := muS_join s t
    have h3 := or_ge w o
    have h4 := (w ||| o).isLt
    have e1 : muS (joinS (w :: s) (o :: t)) = (2 ^ 64 - (w ||| o).toNat) + muS (joinS s t) := by simp [joinS, muS]
    have e2 : muS (w :: s) = (2 ^ 64 - w.toNat) + muS s := by simp [muS]
    refine ⟨by rw [e1, e2]; omega, fun hne => ?_⟩
    rw [e1, e2]
    by_cases hw : (w ||| o) = w
    · have : joinS s t ≠ s := fun e => hne (by rw [joinS, hw, e])
      have := h2 this
      omega
    · have : w.toNat ≠ (w ||| o).toNat := fun e => hw (BitVec.eq_of_toNat_eq e.symm)
      omega
theorem muL_set {l : List SetS} {i : Nat} {a b : SetS} (h : l[i]? = some a) : muL (l.set i b) + muS a = muL l + muS b := by
  unfold muL
  rw [List.map_set]
  exact sum_set (by rw [List.getElem?_map, h]; rfl)
theorem liveStep_mu (bl : List BlockS) (st : LiveS) (i : Nat) (hi : i < st.ins.length) : muL (liveStep bl st i).ins ≤ muL st.ins ∧ ((liveStep bl st i).again = true → st.again = true ∨ muL (liveStep bl st i).ins < muL st.ins) ∧ (liveStep bl st i).ins.length = st.ins.length := by
  unfold liveStep
  split
  · rename_i b hb
    obtain ⟨a, ha⟩ : ∃ a, st.ins[i]? = some a := ⟨_, List.getElem?_eq_getElem hi⟩
    have e : st.ins[i]?.getD [] = a := by rw [ha]; rfl
    simp only [e]
    obtain ⟨h1, h2⟩ := muS_join a (liveIn b (liveOut st.ins (st.outs[i]?.getD []) (nextS b.term)))
    have h3 := muL_set (b := joinS a (liveIn b (liveOut st.ins (st.outs[i]?.getD []) (nextS b.term)))) ha
    refine ⟨by omega, fun h => ?_, List.length_set⟩
    rw [Bool.or_eq_true] at h
    rcases h with h | h
    · exact .inl h
    · have := h2 (by simpa using h)
      exact .inr (by omega)
  · exact ⟨Nat.le_refl _, fun h => .inl h, rfl⟩
theorem liveDown_mu (bl : List BlockS) : ∀ (i : Nat) (st : LiveS), i ≤ st.ins.length → muL (liveDown bl i st).ins ≤ muL st.ins ∧ ((liveDown bl i st).again = true → st.again = true ∨ muL (liveDown bl i st).ins < muL st.ins) ∧ (liveDown bl i st).ins.length = st.ins.length := by
  intro i
  induction i with
  | zero => intro st _; exact ⟨Nat.le_refl _, fun h => .inl h, rfl⟩
  | succ i ih =>
    intro st hi
    obtain ⟨h1, h2, h3⟩ := liveStep_mu bl st i (by omega)
    obtain ⟨g1, g2, g3⟩ := ih (liveStep bl st i) (by omega)
    rw [liveDown]
    refine ⟨by omega, fun h => ?_, by omega⟩
    rcases g2 h with g | g
    · rcases h2 g with k | k
      · exact .inl k
      · exact .inr (by omega)
    · exact .inr (by omega)
theorem liveRound_mu (bl : List BlockS) (st : LiveS) (hl : st.ins.length = bl.length) : muL (liveRound bl st).ins ≤ muL st.ins ∧ ((liveRound bl st).again = true → muL (liveRound bl st).ins < muL st.ins) ∧ (liveRound bl st).ins.length = bl.length := by
  obtain ⟨h1, h2, h3⟩ := liveDown_mu bl bl.length { st with again := false } (by simp [hl])
  refine ⟨h1, fun h => ?_, by rw [← hl]; exact h3⟩
  rcases h2 h with k | k
  · cases k
  · exact k
theorem live_total (bl : List BlockS) : ∀ (n : Nat) (st : LiveS), st.ins.length = bl.length → muL st.ins ≤ n → ∃ st', LiveRun bl st st' := by
  intro n
  induction n with
  | zero =>
    intro st hl hm
    obtain ⟨h1, h2, h3⟩ := liveRound_mu bl st hl
    cases ha : (liveRound bl st).again with
    | false => exact ⟨_, .stop ha⟩
    | true => have := h2 ha; omega
  | succ n ih =>
    intro st hl hm
    obtain ⟨h1, h2, h3⟩ := liveRound_mu bl st hl
    cases ha : (liveRound bl st).again with
    | false => exact ⟨_, .stop ha⟩
    | true =>
      obtain ⟨st', h⟩ := ih (liveRound bl st) h3 (by have := h2 ha; omega)
      exact ⟨st', .go ha h⟩
end Go.Proofs.Ytjhloakacicdiaa
namespace Go.Proofs.Ytjhloakacicdiaa
open Go.AH
attribute [local irreducible] W RS
structure LiveAt (h : Hp) (ib ob : Nat) (ai ao : List Nat) (L : Nat) (ins outs : List SetS) (B : Hp) : Prop where
  old : Old h B
  i : SetsAt B h.n ib ai ins L
  o : SetsAt B h.n ob ao outs L
theorem LiveAt.up {h : Hp} {ib ob : Nat} {ai ao : List Nat} {L : Nat} {ins outs : List SetS} {B B' : Hp} (s : LiveAt h ib ob ai ao L ins outs B) (hd : ∀ i x, B.m i = some x → i < B.n) (o : Old B B') : LiveAt h ib ob ai ao L ins outs B' :=
  ⟨s.old.trans o, s.i.up (o.up hd), s.o.up (o.up hd)⟩
theorem setcopy_exL {L : Nat} (s : SetS) (hL : s.length = L) (A : Option Addr) (c : Nat) (hl : L ≤ 1000000000) (h : Hp) (hs : SetAt h A s) : EX Try.prog 74 [.slice A L c] h (fun v h' => ∃ A' c', v = .slice A' L c' ∧ SetAt h' A' s ∧ Old h h' ∧ ∀ a, A' = some a → h.n ≤ a.block) := by
  subst hL; exact setcopy_ex s A c hl h hs
theorem use_exL {L : Nat} (s : SetS) (hL : s.length = L) (A : Option Addr) (c : Nat) (l : List ArgS) (R : Option Addr) (cL : Nat) (hsl : L ≤ 1000000000) (hll : l.length ≤ 1000000001) (hfit : ∀ a ∈ l, fitI a.reg) (h : Hp) (hs : SetAt h A s) (hl : SlAt h R 2 l argR) :
    EX Try.prog 79 [.slice A L c, .slice R l.length cL] h (fun _ h' => SetAt h' A (useS s l) ∧ OffS (SN A) h h') := by
  subst hL; exact use_ex s A c l R cL hsl hll hfit h hs hl
theorem back_exL {L : Nat} (s : SetS) (hL : s.length = L) (A : Option Addr) (c : Nat) (x : InsS) (A2 : Option Addr) (c2 : Nat) (hsl : L ≤ 1000000000) (hxl : x.args.length ≤ 1000000000) (hfd : fitI x.dst) (hfit : ∀ a ∈ readsS x, fitI a.reg) (h : Hp) (hs : SetAt h A s) (hl : SlAt h A2 2 x.args argR) :
    EX Try.prog 76 [.slice A L c, .agg ⟨insC x A2 c2⟩] h (fun _ h' => SetAt h' A (backS s x) ∧ OffS (SN A) h h') := by
  subst hL; exact back_ex s A c x A2 c2 hsl hxl hfd hfit h hs hl
theorem join_tfL {L : Nat} (s o : SetS) (h1 : s.length = L) (h2 : o.length = L) (A A' : Option Addr) (c c' : Nat) (hl : L ≤ 1000000000) (h : Hp) (hs : SetAt h A s) (ho : SetAt h A' o) (hne : A ≠ A' ∨ A = none) : TF Try.prog 78 ⟨[.slice A L c, .slice A' L c']⟩ h (.bool (joinS s o != s)) (setH h A (joinS s o)) := by
  subst h1
  have := join_tf s o A A' c c' hl (by omega) h hs ho hne
  rw [h2] at this
  exact this
theorem SetsAt.offA {h H : Hp} {N ib : Nat} {al : List Nat} {ss : List SetS} {L : Nat} (s : SetsAt h N ib al ss L) (hd : ∀ i b, h.m i = some b → i < h.n) {A : Option Addr} {t : SetS} (hA : SetAt h A t) (ho : OffS (SN A) h H) (hne : ∀ x ∈ al, ¬ SN A x) : SetsAt H N ib al ss L := by
  refine ⟨?_, s.len, fun i a x h1 h2 => ?_⟩
  · rw [ho.2 ib (hd _ _ s.m) fun e => ?_]
    · exact s.m
    · cases hA with
      | none => cases e
      | some hm hr =>
        have e : some _ = some _ := e
        injection e with e
        injection e with e
        subst e
        exact absurd rfl (ne_of_elem s.m hm (by simp))
  · have h3 := s.pt i a x h1 h2
    rw [ho.2 a (hd _ _ h3.1) (hne a (List.mem_of_getElem? h1))]
    exact h3
theorem backS_len (s : SetS) (x : InsS) : (backS s x).length = s.length := by unfold backS; rw [useS_length, outS_length]
theorem foldBack_len : ∀ (l : List InsS) (s : SetS), (l.foldl backS s).length = s.length := by
  intro l
  induction l with
  | nil => intro s; rfl
  | cons x l ih => intro s; rw [List.foldl_cons, ih, backS_len]
theorem LiveAt.offA {h : Hp} {ib ob : Nat} {ai ao : List Nat} {L : Nat} {ins outs : List SetS} {B H : Hp} (s : LiveAt h ib ob ai ao L ins outs B) (hd : ∀ i b, B.m i = some b → i < B.n) {A : Option Addr} {t : SetS} (hA : SetAt B A t) (ho : OffS (SN A) B H) (hne : ∀ x ∈ ai ++ ao, ¬ SN A x) (hh : ∀ i, SN A i → h.n ≤ i) : LiveAt h ib ob ai ao L ins outs H :=
  ⟨(s.old.off.same (S := fun j => h.n ≤ j) (ho.mono fun j _ e => hh j e)).old fun j hj e => by omega, s.i.offA hd hA ho fun x hx => hne x (List.mem_append.2 (.inl hx)), s.o.offA hd hA ho fun x hx => hne x (List.mem_append.2 (.inr hx))⟩
theorem offA_keep {B H : Hp} (hd : ∀ i b, B.m i = some b → i < B.n) {A : Option Addr} {t : SetS} (hA : SetAt B A t) (ho : OffS (SN A) B H) {j : Nat} {x : Blk} (hx : B.m j = some x) (he : x.elem ≠ 78) : H.m j = some x := by
  rw [ho.2 j (hd _ _ hx) fun e => ?_]
  · exact hx
  · cases hA with
    | none => cases e
    | some hm hr =>
      have e : some _ = some _ := e
      injection e with e
      injection e with e
      subst e
      exact absurd rfl (ne_of_elem hx hm (by simpa using he))
theorem treads_len (t : TermS) : (treadsS t).length ≤ 1000000001 := by
  unfold treadsS
  repeat' split
  all_goals simp
theorem setAt_at {B H : Hp} {A : Option Addr} {s : SetS} (hs : SetAt B A s) (hd : ∀ i b, B.m i = some b → i < B.n) (hb : ∀ i, i < B.n → H.m i = B.m i) : SetAt H A s := by
  cases hs with
  | none => exact .none
  | some hm hr => exact .some (by rw [hb _ (hd _ _ hm)]; exact hm) hr
set_option maxRecDepth 100000 in
theorem live_ex (fb : Nat) (regs : Int) (A : Option Addr) (c : Nat) (bl : List BlockS) (hpos : 0 < bl.length) (hlen : bl.length ≤ 100000) (hr0 : 0 ≤ regs) (hr1 : regs ≤ 1000000) (htg : tgtOK bl) (hb4 : ∀ b ∈ bl, b.ins.length ≤ 1000000) (hb5 : ∀ b ∈ bl, ∀ x ∈ b.ins, x.args.length ≤ 1000000 ∧ fitI x.dst ∧ ∀ a ∈ readsS x, fitI a.reg) (hb6 : ∀ b ∈ bl, ∀ a ∈ treadsS b.term, fitI a.reg) (h : Hp) (hf : FAt h fb regs A c bl) :
    EX Try.prog 73 [.pointer (some ⟨fb, 0, none⟩)] h (fun v h' => ∃ ib ob ai ao ins outs, v = .tuple ⟨[.slice (some ⟨ib, 0, none⟩) bl.length bl.length, .slice (some ⟨ob, 0, none⟩) bl.length bl.length]⟩ ∧ LiveAt h ib ob ai ao (emptyS regs).length ins outs h' ∧ LiveRun bl (live0 bl regs) ⟨ins, outs, false⟩) := by
  refine EX.intro (fn := Try.f73) (c := (Try.f73.body.getD .skip)) Try.func73 (by kernel_rfl) Try.ntmps73 (by kernel_rfl) fun π s0 => ?_
  conv => arg 2; whnf
  have hd := s0.dom
  obtain ⟨fcs, hF, h3, h5⟩ := hf.hf
  have hFn := s0.dom _ _ hF
  ((with_reducible apply W.seq); repeat (first | ((with_reducible apply RS.assign); exact rfl; exact rfl; exact rfl) | ((with_reducible apply RS.nil); exact mixed; kernel_rfl) | ((with_reducible apply W.reg); kernel_rfl) | ((with_reducible apply thenK_n))))
  ((with_reducible apply W.seq); repeat (first | ((with_reducible apply RS.moveX); exact rfl; exact rfl; exact rfl; first | exact bnd_int _ _ _ | exact (bnd_ptr _ _).2 hFn | exact (bnd_slice _ _ _ _).2 hMin | exact (bnd_slice _ _ _ _).2 hMon) | ((with_reducible apply RS.nilCheckX); exact rfl; exact rfl; exact rfl; exact hFn) | ((with_reducible apply RS.fieldAddrX); exact rfl; exact rfl; exact rfl; exact hFn) | ((with_reducible apply RS.load1B); exact rfl; exact rfl; exact rfl; exact hF; exact hFn; first | exact h5 | exact h3) | ((with_reducible apply RS.assign); exact rfl; exact rfl; exact rfl) | ((with_reducible apply RS.lenSl); exact rfl; exact rfl; exact rfl) | ((with_reducible apply RS.nil); exact mixed; kernel_rfl) | ((with_reducible apply W.reg); kernel_rfl) | ((with_reducible apply thenK_n))))
  ((with_reducible apply W.seq); repeat (first | ((with_reducible apply RS.moveX); exact rfl; exact rfl; exact rfl; first | exact bnd_int _ _ _ | exact (bnd_ptr _ _).2 hFn | exact (bnd_slice _ _ _ _).2 hMin | exact (bnd_slice _ _ _ _).2 hMon) | ((with_reducible apply RS.assignL); exact rfl; exact rfl; exact rfl) | ((with_reducible apply RS.makeSliceF); exact rfl; exact rfl; exact rfl; exact rfl; exact rfl; exact rfl; omega; exact rep_nil _; (intro u hu; rw [List.eq_of_mem_replicate hu]; exact bnd_slice_none _ _ _)) | ((with_reducible apply RS.nil); exact mixed; kernel_rfl) | ((with_reducible apply W.reg); kernel_rfl) | ((with_reducible apply thenK_n))))
  refine W.absorbX fun B0 π0 a0 => ?_
  have hI0 : B0.m (π 0) = some ⟨⟨List.replicate bl.length (.slice none 0 0)⟩, 38⟩ := a0.loc 0 (Nat.lt_of_lt_of_le Nat.zero_lt_one (Nat.le_succ 1))
  have hO0 : B0.m (π 1) = some ⟨⟨List.replicate bl.length (.slice none 0 0)⟩, 38⟩ := a0.loc 1 (Nat.lt_succ_self 1)
  have hib : h.n ≤ π 0 := a0.lo 0 (Nat.lt_of_lt_of_le Nat.zero_lt_one (Nat.le_succ 1))
  have hob : h.n ≤ π 1 := a0.lo 1 (Nat.lt_succ_self 1)
  have hio : π 0 ≠ π 1 := fun e => absurd (a0.inj 0 1 (Nat.lt_of_lt_of_le Nat.zero_lt_one (Nat.le_succ 1)) (Nat.lt_succ_self 1) e) (by decide)
  generalize π 0 = ib at *
  generalize π 1 = ob at *
  have hibr : rwM ≤ ib := Nat.le_trans s0.rw hib
  have hobr : rwM ≤ ob := Nat.le_trans s0.rw hob
  obtain ⟨L, hL⟩ : ∃ L, L = (emptyS regs).length := ⟨_, rfl⟩
  have hL1 : L ≤ 1000000000 := by rw [hL, emptyS_length]; omega
  ((with_reducible apply W.seq); repeat (fail))
  ((with_reducible apply W.seq); repeat (first | ((with_reducible apply RS.moveX); exact rfl; exact rfl; exact rfl; first | exact bnd_int _ _ _ | exact (bnd_ptr _ _).2 hFn | exact (bnd_slice _ _ _ _).2 hMin | exact (bnd_slice _ _ _ _).2 hMon) | ((with_reducible apply RS.nil); exact mixed; kernel_rfl) | ((with_reducible apply W.reg); kernel_rfl) | ((with_reducible apply W.block)) | ((with_reducible apply thenK_n))))
  refine W.loopN (X := Nat × List Nat × List Nat) (fun x => [(0, .pointer (some ⟨fb, 0, none⟩)), (4, .int .i64 (bl.length : Int)), (5, .slice (some ⟨ib, 0, none⟩) bl.length bl.length), (6, .slice (some ⟨ob, 0, none⟩) bl.length bl.length), (24, .int .i64 (bl.length : Int)), (25, .int .i64 (x.1 : Int))])
    (fun x B => x.1 ≤ bl.length ∧ x.2.1.length = x.1 ∧ x.2.2.length = x.1 ∧ Fill h h.n ib ob bl.length L (emptyS regs) x.2.1 x.2.2 B) (fun x => bl.length - x.1)
    (fun B' a => ⟨(0, [], []), ?_, ⟨Nat.zero_le _, rfl, rfl, ⟨a0.oldH.trans a.oldH, a.up _ _ hI0, a.up _ _ hO0, (fun a ha => by cases ha), List.nodup_nil⟩⟩⟩) ?_
  · (repeat' (first | exact trivial | exact rfl | apply And.intro)); done
  rintro ⟨i, ai, ao⟩ B π3 sB ⟨hi, hai, hao, hfill⟩
  dsimp only at hi hai hao hfill ⊢
  have hF4 := hfill.old.up hd _ _ hF
  have hMi := hfill.mi
  have hMin := sB.dom _ _ hMi
  have hMon := sB.dom _ _ hfill.mo
  by_cases hlt : i < bl.length
  · have hail : ai.length ≤ bl.length := by omega
    have haol : ao.length ≤ bl.length := by omega
    have hMo : ∀ z, (B.set ib z).m ob = some ⟨⟨partV L bl.length ao⟩, 38⟩ := fun z => by
      show (if ob = ib then _ else B.m ob) = _
      rw [if_neg (fun e => hio e.symm)]; exact hfill.mo
    have hF := hF4
    have hFn := sB.dom _ _ hF
    repeat (first | ((with_reducible apply RS.moveX); exact rfl; exact rfl; exact rfl; first | exact bnd_int _ _ _ | exact (bnd_ptr _ _).2 hFn | exact (bnd_slice _ _ _ _).2 hMin | exact (bnd_slice _ _ _ _).2 hMon) | ((with_reducible apply RS.nilCheckX); exact rfl; exact rfl; exact rfl; exact hFn) | ((with_reducible apply RS.fieldAddrX); exact rfl; exact rfl; exact rfl; exact hFn) | ((with_reducible apply RS.load1BX); exact rfl; exact rfl; exact rfl; exact hF; exact hFn; exact h3; exact bnd_int _ _ _) | ((with_reducible apply RS.indexAddrS); exact rfl; exact rfl; exact rfl; exact rfl; exact rfl; omega) | ((with_reducible apply RS.callN true []); exact rfl; exact rfl; exact rfl; exact empty_at hr0 hr1) | ((with_reducible apply RS.storeB); exact rfl; exact rfl; exact rfl; exact hMi; exact hMin; exact hibr; (rw [partV_len hail]; omega); exact rfl; exact rfl; exact cells_set1 _ _ _) | ((with_reducible apply RS.storeB); exact rfl; exact rfl; exact rfl; exact hMo _; exact hMon; exact hobr; (rw [partV_len haol]; omega); exact rfl; exact rfl; exact cells_set1 _ _ _) | ((with_reducible apply RS.assign); exact rfl; exact rfl; exact rfl) | ((with_reducible apply RS.cmpT); exact rfl; exact rfl; exact rfl; exact rfl; (simp only [cmpP]; omega)) | ((with_reducible apply RS.add1); exact rfl; exact rfl; exact rfl; exact rfl; omega) | ((with_reducible apply RS.nil); exact mixed; kernel_rfl) | ((with_reducible apply W.seq)) | ((with_reducible apply W.reg); kernel_rfl) | ((with_reducible apply W.block)) | ((with_reducible apply W.skip)) | ((with_reducible apply W.condT); kernel_rfl; exact rfl) | ((with_reducible apply thenK_n)) | ((with_reducible apply blockK_n)))
    refine roundN_n rfl fun B' a => ?_
    have hlo0 : B.n ≤ π3 0 := a.lo 0 (Nat.lt_of_lt_of_le Nat.zero_lt_one (Nat.le_succ 1))
    have hlo1 : B.n ≤ π3 1 := a.lo 1 (Nat.lt_succ_self 1)
    have hm0 : B'.m (π3 0) = some ⟨⟨setC (emptyS regs)⟩, 78⟩ := a.loc 0 (Nat.lt_of_lt_of_le Nat.zero_lt_one (Nat.le_succ 1))
    have hm1 : B'.m (π3 1) = some ⟨⟨setC (emptyS regs)⟩, 78⟩ := a.loc 1 (Nat.lt_succ_self 1)
    have h01 : π3 0 ≠ π3 1 := fun e => absurd (a.inj 0 1 (Nat.lt_of_lt_of_le Nat.zero_lt_one (Nat.le_succ 1)) (Nat.lt_succ_self 1) e) (by decide)
    have hps0 : (partV L bl.length ai).set i (.slice (some ⟨π3 0, 0, none⟩) (emptyS regs).length (emptyS regs).length) = partV L bl.length (ai ++ [π3 0]) := by
      rw [← hL, ← partV_set (by omega), hai]; rfl
    have hps1 : (partV L bl.length ao).set i (.slice (some ⟨π3 1, 0, none⟩) (emptyS regs).length (emptyS regs).length) = partV L bl.length (ao ++ [π3 1]) := by
      rw [← hL, ← partV_set (by omega), hao]; rfl
    have keep : ∀ {j : Nat} {x : Blk}, B.m j = some x → x.elem ≠ 38 → B'.m j = some x := by
      intro j x hx he
      refine a.up _ _ ?_
      show (if j = ob then _ else (if j = ib then _ else B.m j)) = _
      rw [if_neg (ne_of_elem hx hfill.mo he), if_neg (ne_of_elem hx hMi he)]
      exact hx
    refine ⟨(i + 1, ai ++ [π3 0], ao ++ [π3 1]), ?_, ⟨by omega, by simp [hai], by simp [hao], ⟨?_, ?_, ?_, ?_, ?_⟩⟩, ?_⟩
    · (repeat' (first | exact trivial | exact rfl | apply And.intro)); done
    · exact ((hfill.old.off.same (S := fun j => h.n ≤ j) ((OffS.set B ib _).mono fun j _ e => by rw [e]; exact hib)).same ((OffS.set _ ob _).mono fun j _ e => by rw [e]; exact hob)).same a.oldH.off |>.old fun j hj e => by omega
    · rw [← hps0]
      refine a.up _ _ ?_
      show (if ib = ob then _ else (if ib = ib then _ else _)) = _
      rw [if_neg hio, if_pos rfl]
    · rw [← hps1]
      refine a.up _ _ ?_
      show (if ob = ob then _ else _) = _
      rw [if_pos rfl]
    · intro x hx
      have hn := hfill.old.1
      simp only [List.mem_append, List.mem_singleton] at hx
      rcases hx with (hx | hx) | (hx | hx)
      · have := hfill.pt x (List.mem_append.2 (.inl hx))
        exact ⟨keep this.1 (by simp), this.2⟩
      · rw [hx]; exact ⟨hm0, by omega⟩
      · have := hfill.pt x (List.mem_append.2 (.inr hx))
        exact ⟨keep this.1 (by simp), this.2⟩
      · rw [hx]; exact ⟨hm1, by omega⟩
    · have hb : ∀ x ∈ ai ++ ao, x < B.n := fun x hx => sB.dom _ _ (hfill.pt x hx).1
      have hnd := hfill.nd
      rw [List.nodup_append] at hnd ⊢
      obtain ⟨n1, n2, n3⟩ := hnd
      refine ⟨?_, ?_, ?_⟩
      · rw [List.nodup_append]
        refine ⟨n1, by simp, fun x hx y hy => ?_⟩
        simp only [List.mem_singleton] at hy
        have := hb x (by simp [hx])
        omega
      · rw [List.nodup_append]
        refine ⟨n2, by simp, fun x hx y hy => ?_⟩
        simp only [List.mem_singleton] at hy
        have := hb x (by simp [hx])
        omega
      · intro x hx y hy
        simp only [List.mem_append, List.mem_singleton] at hx hy
        rcases hx with hx | hx <;> rcases hy with hy | hy
        · exact n3 x hx y hy
        · have := hb x (by simp [hx]); omega
        · have := hb y (by simp [hy]); omega
        · rw [hx, hy]; exact h01
    · show bl.length - (i + 1) < bl.length - i
      omega
  · have hii : i = bl.length := by omega
    have hli : SetsAt B h.n ib ai (List.replicate bl.length (emptyS regs)) L := by
      refine ⟨by rw [hMi]; unfold partV; rw [hai, hii, Nat.sub_self]; simp, by rw [hai, hii, List.length_replicate], fun j x s h1 h2 => ?_⟩
      have hs : s = emptyS regs := List.eq_of_mem_replicate (List.mem_of_getElem? h2)
      have := hfill.pt x (List.mem_append.2 (.inl (List.mem_of_getElem? h1)))
      rw [hs]
      exact ⟨this.1, hL.symm, this.2⟩
    have hlo : SetsAt B h.n ob ao (List.replicate bl.length (emptyS regs)) L := by
      refine ⟨by rw [hfill.mo]; unfold partV; rw [hao, hii, Nat.sub_self]; simp, by rw [hao, hii, List.length_replicate], fun j x s h1 h2 => ?_⟩
      have hs : s = emptyS regs := List.eq_of_mem_replicate (List.mem_of_getElem? h2)
      have := hfill.pt x (List.mem_append.2 (.inr (List.mem_of_getElem? h1)))
      rw [hs]
      exact ⟨this.1, hL.symm, this.2⟩
    have hla : LiveAt h ib ob ai ao L (List.replicate bl.length (emptyS regs)) (List.replicate bl.length (emptyS regs)) B := ⟨hfill.old, hli, hlo⟩
    have hnd := hfill.nd
    obtain ⟨tgt, hrun⟩ := live_total bl _ (live0 bl regs) (by simp [live0]) (Nat.le_refl _)
    clear hfill hli hlo hMi hMin hMon hF4
    repeat (first | ((with_reducible apply RS.assign); exact rfl; exact rfl; exact rfl) | ((with_reducible apply RS.cmpF); exact rfl; exact rfl; exact rfl; exact rfl; (simp only [cmpN]; omega)) | ((with_reducible apply RS.nil); exact mixed; kernel_rfl) | ((with_reducible apply W.seq)) | ((with_reducible apply W.reg); kernel_rfl) | ((with_reducible apply W.block)) | ((with_reducible apply W.exit)) | ((with_reducible apply W.condF); kernel_rfl; exact rfl) | ((with_reducible apply thenK_n)) | ((with_reducible apply thenK_e)) | ((with_reducible apply blockK_hit); exact rfl) | ((with_reducible apply roundN_e)))
    have hF9 := hF
    have hN : ∀ {B : Hp} {x : Nat}, x ∈ ai ++ ao → ∀ {ins outs : List SetS}, LiveAt h ib ob ai ao L ins outs B → h.n ≤ x := by
      intro B x hx ins outs hla
      rcases List.mem_append.1 hx with e | e
      · obtain ⟨j, hj⟩ := List.mem_iff_getElem?.1 e
        have hjl := (List.getElem?_eq_some_iff.1 hj).1
        obtain ⟨y, hy⟩ : ∃ y, ins[j]? = some y := ⟨_, List.getElem?_eq_getElem (by rw [← hla.i.len]; exact hjl)⟩
        exact (hla.i.pt j x y hj hy).2.2
      · obtain ⟨j, hj⟩ := List.mem_iff_getElem?.1 e
        have hjl := (List.getElem?_eq_some_iff.1 hj).1
        obtain ⟨y, hy⟩ : ∃ y, outs[j]? = some y := ⟨_, List.getElem?_eq_getElem (by rw [← hla.o.len]; exact hjl)⟩
        exact (hla.o.pt j x y hj hy).2.2
    refine W.loopN (X := LiveS) (fun x => [(0, .pointer (some ⟨fb, 0, none⟩)), (4, .int .i64 (bl.length : Int)), (5, .slice (some ⟨ib, 0, none⟩) bl.length bl.length), (6, .slice (some ⟨ob, 0, none⟩) bl.length bl.length), (8, .bool x.again)])
      (fun x B => LiveAt h ib ob ai ao L x.ins x.outs B ∧ x.ins.length = bl.length ∧ x.outs.length = bl.length ∧ ((x.again = true ∧ LiveRun bl x tgt) ∨ (x.again = false ∧ x = tgt))) (fun x => muL x.ins * 2 + (if x.again = true then 1 else 0))
      (fun B' a => ⟨live0 bl regs, ?_, ⟨hla.up sB.dom a.oldH, by simp [live0], by simp [live0], .inl ⟨rfl, hrun⟩⟩⟩) ?_
    · (repeat' (first | exact trivial | exact rfl | apply And.intro)); done
    rintro st1 B1 π4 sB1 ⟨hla1, hl1, hl2, hst⟩
    have hF1 := hla1.old.up hd _ _ hF9
    rcases hst with ⟨hag, hrun1⟩ | ⟨hag, htg1⟩
    · rw [hag]
      have hsub : (bl.length : Int) - 1 = ((bl.length : Int) - 1) := rfl
      repeat (first | ((with_reducible apply RS.moveX); exact rfl; exact rfl; exact rfl; first | exact bnd_int _ _ _ | exact (bnd_ptr _ _).2 hFn | exact (bnd_slice _ _ _ _).2 hMin | exact (bnd_slice _ _ _ _).2 hMon) | ((with_reducible apply RS.move); exact rfl; exact rfl; exact rfl) | ((with_reducible apply RS.assign); exact rfl; exact rfl; exact rfl) | ((with_reducible apply RS.sub1); exact rfl; exact rfl; exact rfl; exact rfl; omega) | ((with_reducible apply RS.nil); exact mixed; kernel_rfl) | ((with_reducible apply W.seq)) | ((with_reducible apply W.reg); kernel_rfl) | ((with_reducible apply W.block)) | ((with_reducible apply W.skip)) | ((with_reducible apply W.condT); kernel_rfl; exact rfl) | ((with_reducible apply thenK_n)))
      obtain ⟨R, hR⟩ : ∃ R, liveRound bl st1 = R := ⟨_, rfl⟩
      refine W.loopN (X := Nat × LiveS) (fun x => [(0, .pointer (some ⟨fb, 0, none⟩)), (4, .int .i64 (bl.length : Int)), (5, .slice (some ⟨ib, 0, none⟩) bl.length bl.length), (6, .slice (some ⟨ob, 0, none⟩) bl.length bl.length), (8, .bool x.2.again), (9, .int .i64 ((x.1 : Int) - 1))])
        (fun x B => x.1 ≤ bl.length ∧ LiveAt h ib ob ai ao L x.2.ins x.2.outs B ∧ x.2.ins.length = bl.length ∧ x.2.outs.length = bl.length ∧ liveDown bl x.1 x.2 = R) (fun x => x.1)
        (fun B' a => ⟨(bl.length, { st1 with again := false }), ?_, ⟨Nat.le_refl _, hla1.up sB1.dom a.oldH, hl1, hl2, hR⟩⟩) ?_
      · have e9 : ((bl.length : Nat) : Int) - 1 = ((bl.length - 1 : Nat) : Int) := by omega
        dsimp only
        rw [e9]
        (repeat' (first | exact trivial | exact rfl | apply And.intro)); done
      rintro ⟨i, st⟩ B2 π5 sB2 ⟨hi2, hla2, hl3, hl4, hgo⟩
      dsimp only at hi2 hla2 hl3 hl4 hgo ⊢
      have hF2 := hla2.old.up hd _ _ hF9
      cases i with
      | zero =>
        rw [liveDown] at hgo
        subst hgo
        obtain ⟨m1, m2, m3⟩ := liveRound_mu bl st1 hl1
        rw [hR] at m1 m2 m3
        repeat (first | ((with_reducible apply RS.moveX); exact rfl; exact rfl; exact rfl; first | exact bnd_int _ _ _ | exact (bnd_ptr _ _).2 hFn | exact (bnd_slice _ _ _ _).2 hMin | exact (bnd_slice _ _ _ _).2 hMon) | ((with_reducible apply RS.cmpF); exact rfl; exact rfl; exact rfl; exact rfl; (simp only [cmpN]; omega)) | ((with_reducible apply RS.nil); exact mixed; kernel_rfl) | ((with_reducible apply W.seq)) | ((with_reducible apply W.reg); kernel_rfl) | ((with_reducible apply W.exit)) | ((with_reducible apply W.condF); kernel_rfl; exact rfl) | ((with_reducible apply thenK_n)) | ((with_reducible apply thenK_e)) | ((with_reducible apply blockK_n)) | ((with_reducible apply blockK_hit); exact rfl) | ((with_reducible apply roundN_e)))
        refine roundN_n rfl fun B' a => ⟨st, ?_, ⟨hla2.up sB2.dom a.oldH, hl3, hl4, ?_⟩, ?_⟩
        · (repeat' (first | exact trivial | exact rfl | apply And.intro)); done
        · cases hrun1 with
          | stop hs =>
            rw [hR] at hs
            exact .inr ⟨hs, hR.symm⟩
          | go hs hr =>
            rw [hR] at hs hr
            exact .inl ⟨hs, hr⟩
        · show muL st.ins * 2 + (if st.again = true then 1 else 0) < muL st1.ins * 2 + (if st1.again = true then 1 else 0)
          rw [hag]
          cases hsa : st.again with
          | false => simp; omega
          | true => have := m2 hsa; simp; omega
      | succ i =>
        have e9 : ((i + 1 : Nat) : Int) - 1 = (i : Int) := by omega
        rw [e9]
        rw [liveDown] at hgo
        have hil : i < bl.length := by omega
        obtain ⟨b, hb⟩ : ∃ b, bl[i]? = some b := ⟨_, List.getElem?_eq_getElem hil⟩
        obtain ⟨o0, ho0⟩ : ∃ o0, st.outs[i]? = some o0 := ⟨_, List.getElem?_eq_getElem (by omega)⟩
        obtain ⟨n0, hn0⟩ : ∃ n0, st.ins[i]? = some n0 := ⟨_, List.getElem?_eq_getElem (by omega)⟩
        have hail := hla2.i.len
        have haol := hla2.o.len
        obtain ⟨xi, hxi⟩ : ∃ xi, ai[i]? = some xi := ⟨_, List.getElem?_eq_getElem (by omega)⟩
        obtain ⟨xo, hxo⟩ : ∃ xo, ao[i]? = some xo := ⟨_, List.getElem?_eq_getElem (by omega)⟩
        have hstep : liveStep bl st i = ⟨st.ins.set i (joinS n0 (liveIn b (liveOut st.ins o0 (nextS b.term)))), st.outs.set i (liveOut st.ins o0 (nextS b.term)), st.again || joinS n0 (liveIn b (liveOut st.ins o0 (nextS b.term))) != n0⟩ := by
          unfold liveStep
          rw [hb, ho0, hn0]; rfl
        rw [hstep] at hgo
        have hf2 := hf.up (hla2.old.up hd)
        obtain ⟨bb, off, cs, e, hA, hG0, hGl, hGb⟩ := hf.sl.get _ b hb
        have hG := hla2.old.up hd _ _ hG0
        have hGn := sB2.dom _ _ hG
        obtain ⟨Ai, ci, hGb, hins⟩ := hGb
        have hF := hF2
        have hFn := sB2.dom _ _ hF
        rw [hA] at h5
        ((with_reducible apply W.seq); repeat (fail))
        ((with_reducible apply W.seq); repeat (first | ((with_reducible apply RS.moveX); exact rfl; exact rfl; exact rfl; first | exact bnd_int _ _ _ | exact (bnd_ptr _ _).2 hFn | exact (bnd_slice _ _ _ _).2 hMin | exact (bnd_slice _ _ _ _).2 hMon) | ((with_reducible apply RS.cmpT); exact rfl; exact rfl; exact rfl; exact rfl; (simp only [cmpP]; omega)) | ((with_reducible apply RS.nil); exact mixed; kernel_rfl) | ((with_reducible apply W.reg); kernel_rfl) | ((with_reducible apply W.skip)) | ((with_reducible apply W.condT); kernel_rfl; exact rfl) | ((with_reducible apply thenK_n))))
        ((with_reducible apply W.seq); repeat (first | ((with_reducible apply W.block))))
        ((with_reducible apply W.seq); repeat (first | ((with_reducible apply RS.moveX); exact rfl; exact rfl; exact rfl; first | exact bnd_int _ _ _ | exact (bnd_ptr _ _).2 hFn | exact (bnd_slice _ _ _ _).2 hMin | exact (bnd_slice _ _ _ _).2 hMon) | ((with_reducible apply RS.nilCheckX); exact rfl; exact rfl; exact rfl; exact hFn) | ((with_reducible apply RS.fieldAddrX); exact rfl; exact rfl; exact rfl; exact hFn) | ((with_reducible apply RS.loadNB); exact rfl; exact rfl; exact rfl; exact hG; exact hGn; exact hGl; exact hGb) | ((with_reducible apply RS.load1B); exact rfl; exact rfl; exact rfl; exact hF; exact hFn; first | exact h5 | exact h3) | ((with_reducible apply RS.indexAddrS); exact rfl; exact rfl; exact rfl; exact rfl; exact rfl; omega) | ((with_reducible apply RS.store); exact rfl; exact rfl; exact rfl; exact rfl; exact rfl; exact Nat.le_of_ble_eq_true rfl; exact rfl; exact rfl; exact rfl) | ((with_reducible apply RS.alloc); exact rfl; exact rfl) | ((with_reducible apply RS.nil); exact mixed; kernel_rfl) | ((with_reducible apply W.reg); kernel_rfl) | ((with_reducible apply thenK_n))))
        refine W.absorbX fun B3 π6 a3 => ?_
        have hq : B3.m (π5 0) = some ⟨⟨blockC b Ai ci⟩, 47⟩ := a3.loc 0 (Nat.lt_succ_self 0)
        generalize π5 0 = q at *
        have hqn := a3.dom _ _ hq
        have hla3 := hla2.up sB2.dom a3.oldH
        ((with_reducible apply W.seq); repeat (fail))
        ((with_reducible apply W.seq); repeat (first | ((with_reducible apply RS.moveX); exact rfl; exact rfl; exact rfl; first | exact bnd_int _ _ _ | exact (bnd_ptr _ _).2 hFn | exact (bnd_slice _ _ _ _).2 hMin | exact (bnd_slice _ _ _ _).2 hMon) | ((with_reducible apply RS.loadNB); exact rfl; exact rfl; exact rfl; exact hq; exact hqn; exact Nat.le_of_ble_eq_true rfl; exact rfl) | ((with_reducible apply RS.callEx); exact rfl; exact rfl; exact rfl; intro B5 hB5; refine ⟨_, next_ex b.term B5, ?_⟩; rintro v H5 π7 ⟨AL, cL, rfl, hrow, ho5, hnewL⟩ sH5 hle5) | ((with_reducible apply RS.lenSl); exact rfl; exact rfl; exact rfl) | ((with_reducible apply RS.fieldAddr); exact rfl; exact rfl; exact rfl) | ((with_reducible apply RS.nil); exact mixed; kernel_rfl) | ((with_reducible apply W.reg); kernel_rfl) | ((with_reducible apply W.block)) | ((with_reducible apply thenK_n))))
        generalize hl : nextS b.term = l at *
        have hlk : ∀ k ∈ l, 0 ≤ k ∧ k < bl.length := fun k hk => htg b (List.mem_of_getElem? hb) k (by rw [hl]; exact hk)
        have hll : l.length ≤ 2 := by rw [← hl]; exact nextS_len _
        have hq5 := (hB5.oldH.trans ho5).up a3.dom _ _ hq
        have hla5 := hla3.up a3.dom (hB5.oldH.trans ho5)
        have hndi : ai.Nodup := (List.nodup_append.1 hnd).1
        have hndo : ao.Nodup := (List.nodup_append.1 hnd).2.1
        have hdis : ∀ x ∈ ai, ∀ y ∈ ao, x ≠ y := (List.nodup_append.1 hnd).2.2
        have hxom := List.mem_of_getElem? hxo
        have hxim := List.mem_of_getElem? hxi
        have hxon : xo ∉ ai := fun e => hdis xo e xo hxom rfl
        have hxin : xi ∉ ao := fun e => hdis xi hxim xi e rfl
        have hwr : ∀ {x : Nat}, x ∈ ai ++ ao → rwM ≤ x := fun hx => Nat.le_trans s0.rw (hN hx hla2)
        refine W.loopN (X := Nat × SetS) (fun x => [(0, .pointer (some ⟨fb, 0, none⟩)), (4, .int .i64 (bl.length : Int)), (5, .slice (some ⟨ib, 0, none⟩) bl.length bl.length), (6, .slice (some ⟨ob, 0, none⟩) bl.length bl.length), (8, .bool st.again), (9, .int .i64 (i : Int)), (10, .pointer (some ⟨q, 0, none⟩)), (61, .slice AL l.length cL), (62, .int .i64 (l.length : Int)), (63, .int .i64 (x.1 : Int))])
          (fun x B => x.1 ≤ l.length ∧ LiveAt h ib ob ai ao L st.ins (st.outs.set i x.2) B ∧ B.m q = some ⟨⟨blockC b Ai ci⟩, 47⟩ ∧ IntAt B AL l ∧ x.2 = liveOut st.ins o0 (l.take x.1)) (fun x => l.length - x.1)
          (fun B' a => ⟨(0, o0), ?_, ⟨Nat.zero_le _, by rw [set_same ho0]; exact hla5.up sH5.dom a.oldH, a.up _ _ hq5, hrow.up a.up, by rw [List.take_zero]; rfl⟩⟩) ?_
        · (repeat' (first | exact trivial | exact rfl | apply And.intro)); done
        rintro ⟨j, o⟩ B8 π8 sB8 ⟨hj, hla8, hq8, hIn, ho⟩
        dsimp only at hj hla8 hq8 hIn ho ⊢
        have hMo8 := hla8.o.m
        have hMo8n := sB8.dom _ _ hMo8
        have hMi8 := hla8.i.m
        have hMi8n := sB8.dom _ _ hMi8
        have hos : (st.outs.set i o)[i]? = some o := by rw [List.getElem?_set, if_pos rfl, if_pos (by omega)]
        have hoc : (ao.map (setV L))[0 + i * 1]? = some (.slice (some ⟨xo, 0, none⟩) L L) := by rw [Nat.zero_add, Nat.mul_one, List.getElem?_map, hxo]; rfl
        obtain ⟨hxm, hxL, _⟩ := hla8.o.pt i xo o hxo hos
        have hxmn := sB8.dom _ _ hxm
        by_cases hjl : j < l.length
        · obtain ⟨k, hk⟩ : ∃ k, l[j]? = some k := ⟨_, List.getElem?_eq_getElem hjl⟩
          rcases hIn with hIn | ⟨nr, rfl, hR⟩
          · rw [hIn] at hjl; exact absurd hjl (Nat.not_lt_zero _)
          have hRn := sB8.dom _ _ hR
          have hRv : (l.map (Value.int .i64))[0 + j * 1]? = some (.int .i64 k) := by simp [hk]
          obtain ⟨hk0, hk1⟩ := hlk k (List.mem_of_getElem? hk)
          obtain ⟨g, hg⟩ : ∃ g : Nat, k = (g : Int) := ⟨k.toNat, by omega⟩
          have hgt : k.toNat = g := by omega
          obtain ⟨xk, hxk⟩ : ∃ xk, ai[g]? = some xk := ⟨_, List.getElem?_eq_getElem (by omega)⟩
          obtain ⟨sk, hsk⟩ : ∃ sk, st.ins[g]? = some sk := ⟨_, List.getElem?_eq_getElem (by omega)⟩
          have hic : (ai.map (setV L))[0 + g * 1]? = some (.slice (some ⟨xk, 0, none⟩) L L) := by rw [Nat.zero_add, Nat.mul_one, List.getElem?_map, hxk]; rfl
          obtain ⟨hkm, hkL, _⟩ := hla8.i.pt g xk sk hxk hsk
          have hkmn := sB8.dom _ _ hkm
          have hkx : xo ≠ xk := fun e => hdis xk (List.mem_of_getElem? hxk) xo hxom e.symm
          repeat (first | ((with_reducible apply RS.moveX); exact rfl; exact rfl; exact rfl; first | exact bnd_int _ _ _ | exact (bnd_ptr _ _).2 hFn | exact (bnd_slice _ _ _ _).2 hMin | exact (bnd_slice _ _ _ _).2 hMon) | ((with_reducible apply RS.load1B); exact rfl; exact rfl; exact rfl; exact hR; exact hRn; exact hRv) | ((with_reducible apply RS.load1B); exact rfl; exact rfl; exact rfl; exact hMo8; exact hMo8n; exact hoc) | ((with_reducible apply RS.load1B); exact rfl; exact rfl; exact rfl; exact hMi8; exact hMi8n; exact hic) | ((with_reducible apply RS.indexAddrS); exact rfl; exact rfl; exact rfl; exact rfl; exact hg; omega) | ((with_reducible apply (RS.callWB (blk := xo) (b' := ⟨⟨setC (joinS o sk)⟩, 78⟩) [])); exact rfl; exact rfl; exact rfl; exact hxm; exact hxmn; exact fun H hH => join_tfL o sk hxL hkL (some ⟨xo, 0, none⟩) (some ⟨xk, 0, none⟩) L L hL1 H (SetAt.some (by rw [hH.b rfl xo hxmn]; exact hxm) (hwr (List.mem_append.2 (.inr hxom)))) (SetAt.some (by rw [hH.b rfl xk hkmn]; exact hkm) (hwr (List.mem_append.2 (.inl (List.mem_of_getElem? hxk))))) (.inl (fun e => hkx (by injection e with e; injection e)))) | ((with_reducible apply RS.indexAddrS); exact rfl; exact rfl; exact rfl; exact rfl; exact rfl; omega) | ((with_reducible apply RS.move); exact rfl; exact rfl; exact rfl) | ((with_reducible apply RS.assign); exact rfl; exact rfl; exact rfl) | ((with_reducible apply RS.cmpT); exact rfl; exact rfl; exact rfl; exact rfl; (simp only [cmpP]; omega)) | ((with_reducible apply RS.add1); exact rfl; exact rfl; exact rfl; exact rfl; omega) | ((with_reducible apply RS.nil); exact mixed; kernel_rfl) | ((with_reducible apply W.seq)) | ((with_reducible apply W.reg); kernel_rfl) | ((with_reducible apply W.block)) | ((with_reducible apply W.skip)) | ((with_reducible apply W.condT); kernel_rfl; exact rfl) | ((with_reducible apply thenK_n)) | ((with_reducible apply blockK_n)))
          refine roundN_n rfl fun B' a => ⟨(j + 1, joinS o sk), ?_, ⟨by omega, LiveAt.up ⟨?_, ?_, ?_⟩ ?_ a.oldH, a.up _ _ ?_, .inr ⟨nr, rfl, a.up _ _ ?_⟩, ?_⟩, ?_⟩
          · (repeat' (first | exact trivial | exact rfl | apply And.intro)); done
          · exact (hla8.old.off.same ((OffS.set B8 xo _).mono (T := fun j => h.n ≤ j) fun j _ e => by rw [e]; exact hN (List.mem_append.2 (.inr hxom)) hla8)).old fun j hj e => by omega
          · exact hla8.i.other hxm rfl hxon _
          · have := hla8.o.set hndo hxo (x := joinS o sk) (by rw [joinS_length]; exact hxL)
            rw [List.set_set] at this
            exact this
          · intro j x hx
            have hx : (if j = xo then _ else B8.m j) = some x := hx
            split at hx
            · rename_i e; rw [e]; exact hxmn
            · exact sB8.dom j x hx
          · show (if q = xo then _ else B8.m q) = _
            rw [if_neg (ne_of_elem hq8 hxm (by simp))]; exact hq8
          · show (if nr = xo then _ else B8.m nr) = _
            rw [if_neg (ne_of_elem hR hxm (by simp))]; exact hR
          · show joinS o sk = liveOut st.ins o0 (l.take (j + 1))
            obtain ⟨q1, q2⟩ := List.getElem?_eq_some_iff.1 hk
            rw [List.take_succ_eq_append_getElem q1, q2]
            unfold liveOut
            rw [List.foldl_append]
            have : st.ins[k.toNat]?.getD [] = sk := by rw [hgt, hsk]; rfl
            show joinS o sk = joinS ((l.take j).foldl (fun o k => joinS o (st.ins[k.toNat]?.getD [])) o0) (st.ins[k.toNat]?.getD [])
            rw [this, ho]; rfl
          · show l.length - (j + 1) < l.length - j
            omega
        · have hjj : j = l.length := by omega
          rw [hjj, List.take_length] at ho
          have hbm := List.mem_of_getElem? hb
          have hset8 : SetAt B8 (some ⟨xo, 0, none⟩) o := .some hxm (hwr (List.mem_append.2 (.inr hxom)))
          have hq8n := sB8.dom _ _ hq8
          ((with_reducible apply W.seq); repeat (first | ((with_reducible apply RS.cmpF); exact rfl; exact rfl; exact rfl; exact rfl; (simp only [cmpN]; omega)) | ((with_reducible apply RS.nil); exact mixed; kernel_rfl) | ((with_reducible apply W.reg); kernel_rfl) | ((with_reducible apply thenK_n))))
          ((with_reducible apply W.seq); repeat (first | ((with_reducible apply W.exit)) | ((with_reducible apply W.condF); kernel_rfl; exact rfl) | ((with_reducible apply thenK_n)) | ((with_reducible apply thenK_e)) | ((with_reducible apply blockK_hit); exact rfl) | ((with_reducible apply roundN_e))))
          ((with_reducible apply W.seq); repeat (first | ((with_reducible apply RS.moveX); exact rfl; exact rfl; exact rfl; first | exact bnd_int _ _ _ | exact (bnd_ptr _ _).2 hFn | exact (bnd_slice _ _ _ _).2 hMin | exact (bnd_slice _ _ _ _).2 hMon) | ((with_reducible apply RS.load1B); exact rfl; exact rfl; exact rfl; exact hMo8; exact hMo8n; exact hoc) | ((with_reducible apply RS.callEx); exact rfl; exact rfl; exact rfl; intro B9 hB9; refine ⟨_, setcopy_exL o hxL (some ⟨xo, 0, none⟩) L hL1 B9 (setAt_up hset8 hB9.up), ?_⟩; rintro v H9 π9 ⟨A9, c9, rfl, hs9, ho9, hn9⟩ sH9 hle9) | ((with_reducible apply RS.indexAddrS); exact rfl; exact rfl; exact rfl; exact rfl; exact rfl; omega) | ((with_reducible apply RS.move); exact rfl; exact rfl; exact rfl) | ((with_reducible apply RS.assign); exact rfl; exact rfl; exact rfl) | ((with_reducible apply RS.nil); exact mixed; kernel_rfl) | ((with_reducible apply W.reg); kernel_rfl) | ((with_reducible apply thenK_n))))
          have o89 : Old B8 H9 := hB9.oldH.trans ho9
          have hla9 := hla8.up sB8.dom o89
          have hq9 := o89.up sB8.dom _ _ hq8
          have hq9n := sH9.dom _ _ hq9
          have hA9 : ∀ {ins outs : List SetS} {B : Hp}, B = B8 → LiveAt h ib ob ai ao L ins outs B → ∀ x ∈ ai ++ ao, ¬ SN A9 x := by
            intro ins outs B hBe hla x hx e
            subst hBe
            have h1 := hn9 _ e
            have h2 : B.n ≤ B9.n := hB9.le
            have h3 : x < B.n := by
              rcases List.mem_append.1 hx with e | e
              · obtain ⟨j, hj⟩ := List.mem_iff_getElem?.1 e
                have hjl := (List.getElem?_eq_some_iff.1 hj).1
                obtain ⟨y, hy⟩ : ∃ y, ins[j]? = some y := ⟨_, List.getElem?_eq_getElem (by rw [← hla.i.len]; exact hjl)⟩
                exact sB8.dom _ _ (hla.i.pt j x y hj hy).1
              · obtain ⟨j, hj⟩ := List.mem_iff_getElem?.1 e
                have hjl := (List.getElem?_eq_some_iff.1 hj).1
                obtain ⟨y, hy⟩ : ∃ y, outs[j]? = some y := ⟨_, List.getElem?_eq_getElem (by rw [← hla.o.len]; exact hjl)⟩
                exact sB8.dom _ _ (hla.o.pt j x y hj hy).1
            simp only at h1
            omega
          replace hA9 := hA9 rfl hla8
          have hA9h : ∀ i, SN A9 i → h.n ≤ i := by
            intro x e
            have h1 := hn9 _ e
            have h2 : B8.n ≤ B9.n := hB9.le
            have h3 := hla8.old.1
            simp only at h1
            omega
          ((with_reducible apply W.seq); repeat (first | ((with_reducible apply RS.loadNB); exact rfl; exact rfl; exact rfl; exact hq9; exact hq9n; exact Nat.le_of_ble_eq_true rfl; exact (show takeV (0 + 1) 8 (blockC b Ai ci) = termC b.term from rfl)) | ((with_reducible apply RS.callEx); exact rfl; exact rfl; exact rfl; intro B10 hB10; refine ⟨_, treads_ex b.term B10, ?_⟩; rintro v H10 π10 ⟨A10, c10, rfl, hr10, ho10⟩ sH10 hle10) | ((with_reducible apply RS.callEx); exact rfl; exact rfl; exact rfl; intro B11 hB11; refine ⟨_, use_exL o hxL A9 c9 (treadsS b.term) A10 c10 hL1 (treads_len _) (hb6 b hbm) B11 (setAt_up (setAt_up (setAt_up hs9 hB10.up) (ho10.up hB10.dom)) hB11.up) (hr10.mono hB11.up fun _ _ h => h), ?_⟩; rintro v H11 π11 ⟨hs11, ho11⟩ sH11 hle11) | ((with_reducible apply RS.move); exact rfl; exact rfl; exact rfl) | ((with_reducible apply RS.fieldAddr); exact rfl; exact rfl; exact rfl) | ((with_reducible apply RS.nil); exact mixed; kernel_rfl) | ((with_reducible apply W.reg); kernel_rfl) | ((with_reducible apply thenK_n))))
          have o911 : OffS (SN A9) H9 H11 := ((hB10.oldH.trans ho10).trans hB11.oldH).off.same ho11
          have hla11 := hla9.offA sH9.dom hs9 o911 hA9 hA9h
          have hq11 := offA_keep sH9.dom hs9 o911 hq9 (by simp)
          have hq11n := sH11.dom _ _ hq11
          have hbil := hb4 b hbm
          have hso : (useS o (treadsS b.term)).length = L := by rw [useS_length]; exact hxL
          ((with_reducible apply W.seq); repeat (fail))
          ((with_reducible apply W.seq); repeat (first | ((with_reducible apply RS.load1B); exact rfl; exact rfl; exact rfl; exact hq11; exact hq11n; exact rfl) | ((with_reducible apply RS.assign); exact rfl; exact rfl; exact rfl) | ((with_reducible apply RS.binFit); exact rfl; exact rfl; exact rfl; exact rfl; exact rfl; omega) | ((with_reducible apply RS.lenSl); exact rfl; exact rfl; exact rfl) | ((with_reducible apply RS.fieldAddr); exact rfl; exact rfl; exact rfl) | ((with_reducible apply RS.nil); exact mixed; kernel_rfl) | ((with_reducible apply W.reg); kernel_rfl) | ((with_reducible apply W.block)) | ((with_reducible apply thenK_n))))
          refine W.loopN (X := Nat × SetS) (fun x => [(0, .pointer (some ⟨fb, 0, none⟩)), (4, .int .i64 (bl.length : Int)), (5, .slice (some ⟨ib, 0, none⟩) bl.length bl.length), (6, .slice (some ⟨ob, 0, none⟩) bl.length bl.length), (8, .bool st.again), (9, .int .i64 (i : Int)), (10, .pointer (some ⟨q, 0, none⟩)), (13, .slice A9 L c9), (14, .int .i64 ((x.1 : Int) - 1))])
            (fun x B => x.1 ≤ b.ins.length ∧ LiveAt h ib ob ai ao L st.ins (st.outs.set i o) B ∧ B.m q = some ⟨⟨blockC b Ai ci⟩, 47⟩ ∧ SetAt B A9 x.2 ∧ x.2 = (b.ins.drop x.1).reverse.foldl backS (useS o (treadsS b.term))) (fun x => x.1)
            (fun B' a => ⟨(b.ins.length, useS o (treadsS b.term)), ?_, ⟨Nat.le_refl _, hla11.up sH11.dom a.oldH, a.up _ _ hq11, setAt_up hs11 a.up, by rw [List.drop_length]; rfl⟩⟩) ?_
          · dsimp only
            (repeat' (first | exact trivial | exact rfl | apply And.intro)); done
          rintro ⟨k, s⟩ B12 π12 sB12 ⟨hk, hla12, hq12, hs12, hsk⟩
          dsimp only at hk hla12 hq12 hs12 hsk ⊢
          have hq12n := sB12.dom _ _ hq12
          have hsl : s.length = L := by rw [hsk, foldBack_len]; exact hso
          cases k with
          | zero =>
            rw [List.drop_zero] at hsk
            have hss : s = liveIn b o := by rw [hsk]; rfl
            rw [← ho, ← hss] at hgo
            have hMi12 := hla12.i.m
            have hMi12n := sB12.dom _ _ hMi12
            have hic0 : (ai.map (setV L))[0 + i * 1]? = some (.slice (some ⟨xi, 0, none⟩) L L) := by rw [Nat.zero_add, Nat.mul_one, List.getElem?_map, hxi]; rfl
            obtain ⟨him, hiL, hiN⟩ := hla12.i.pt i xi n0 hxi hn0
            have himn := sB12.dom _ _ him
            have hA9x : (some ⟨xi, 0, none⟩ : Option Addr) ≠ A9 := fun e => hA9 xi (List.mem_append.2 (.inl hxim)) (by rw [← e]; rfl)
            obtain ⟨jb, hjb⟩ : ∃ jb, (joinS n0 s != n0) = jb := ⟨_, rfl⟩
            rw [hjb] at hgo
            cases jb with
            | false =>
              repeat (first | ((with_reducible apply RS.moveX); exact rfl; exact rfl; exact rfl; first | exact bnd_int _ _ _ | exact (bnd_ptr _ _).2 hFn | exact (bnd_slice _ _ _ _).2 hMin | exact (bnd_slice _ _ _ _).2 hMon) | ((with_reducible apply RS.load1B); exact rfl; exact rfl; exact rfl; exact hMi12; exact hMi12n; exact hic0) | ((with_reducible apply (RS.callWB (blk := xi) (b' := ⟨⟨setC (joinS n0 s)⟩, 78⟩) [])); exact rfl; exact rfl; exact rfl; exact him; exact himn; exact fun H hH => hjb ▸ join_tfL n0 s hiL hsl (some ⟨xi, 0, none⟩) A9 L c9 hL1 H (SetAt.some (by rw [hH.b rfl xi himn]; exact him) (hwr (List.mem_append.2 (.inl hxim)))) (setAt_at hs12 sB12.dom fun x hx => hH.b rfl x hx) (.inl hA9x)) | ((with_reducible apply RS.indexAddrS); exact rfl; exact rfl; exact rfl; exact rfl; exact rfl; omega) | ((with_reducible apply RS.move); exact rfl; exact rfl; exact rfl) | ((with_reducible apply RS.assign); exact rfl; exact rfl; exact rfl) | ((with_reducible apply RS.cmpF); exact rfl; exact rfl; exact rfl; exact rfl; (simp only [cmpN]; omega)) | ((with_reducible apply RS.binFit); exact rfl; exact rfl; exact rfl; exact rfl; exact rfl; omega) | ((with_reducible apply RS.nil); exact mixed; kernel_rfl) | ((with_reducible apply W.seq)) | ((with_reducible apply W.reg); kernel_rfl) | ((with_reducible apply W.exit)) | ((with_reducible apply W.skip)) | ((with_reducible apply W.condF); kernel_rfl; exact rfl) | ((with_reducible apply thenK_n)) | ((with_reducible apply thenK_e)) | ((with_reducible apply blockK_n)) | ((with_reducible apply blockK_hit); exact rfl) | ((with_reducible apply roundN_e)))
              refine roundN_n rfl fun B' a => ⟨(i, ⟨st.ins.set i (joinS n0 s), st.outs.set i o, st.again⟩), ?_, ⟨by omega, LiveAt.up ⟨?_, ?_, ?_⟩ ?_ a.oldH, by simp [hl3], by simp [hl4], by rw [Bool.or_false] at hgo; exact hgo⟩, Nat.lt_succ_self _⟩
              · (repeat' (first | exact trivial | exact rfl | apply And.intro)); done
              · exact (hla12.old.off.same ((OffS.set B12 xi _).mono (T := fun j => h.n ≤ j) fun j _ e => by rw [e]; exact hiN)).old fun j hj e => by omega
              · exact hla12.i.set hndi hxi (x := joinS n0 s) (by rw [joinS_length]; exact hiL)
              · exact hla12.o.other him rfl hxin _
              · intro j x hx
                have hx : (if j = xi then _ else B12.m j) = some x := hx
                split at hx
                · rename_i e; rw [e]; exact himn
                · exact sB12.dom j x hx
            | true =>
              repeat (first | ((with_reducible apply RS.moveX); exact rfl; exact rfl; exact rfl; first | exact bnd_int _ _ _ | exact (bnd_ptr _ _).2 hFn | exact (bnd_slice _ _ _ _).2 hMin | exact (bnd_slice _ _ _ _).2 hMon) | ((with_reducible apply RS.load1B); exact rfl; exact rfl; exact rfl; exact hMi12; exact hMi12n; exact hic0) | ((with_reducible apply (RS.callWB (blk := xi) (b' := ⟨⟨setC (joinS n0 s)⟩, 78⟩) [])); exact rfl; exact rfl; exact rfl; exact him; exact himn; exact fun H hH => hjb ▸ join_tfL n0 s hiL hsl (some ⟨xi, 0, none⟩) A9 L c9 hL1 H (SetAt.some (by rw [hH.b rfl xi himn]; exact him) (hwr (List.mem_append.2 (.inl hxim)))) (setAt_at hs12 sB12.dom fun x hx => hH.b rfl x hx) (.inl hA9x)) | ((with_reducible apply RS.indexAddrS); exact rfl; exact rfl; exact rfl; exact rfl; exact rfl; omega) | ((with_reducible apply RS.move); exact rfl; exact rfl; exact rfl) | ((with_reducible apply RS.assign); exact rfl; exact rfl; exact rfl) | ((with_reducible apply RS.cmpF); exact rfl; exact rfl; exact rfl; exact rfl; (simp only [cmpN]; omega)) | ((with_reducible apply RS.binFit); exact rfl; exact rfl; exact rfl; exact rfl; exact rfl; omega) | ((with_reducible apply RS.nil); exact mixed; kernel_rfl) | ((with_reducible apply W.seq)) | ((with_reducible apply W.reg); kernel_rfl) | ((with_reducible apply W.exit)) | ((with_reducible apply W.condT); kernel_rfl; exact rfl) | ((with_reducible apply W.condF); kernel_rfl; exact rfl) | ((with_reducible apply thenK_n)) | ((with_reducible apply thenK_e)) | ((with_reducible apply blockK_n)) | ((with_reducible apply blockK_hit); exact rfl) | ((with_reducible apply roundN_e)))
              refine roundN_n rfl fun B' a => ⟨(i, ⟨st.ins.set i (joinS n0 s), st.outs.set i o, true⟩), ?_, ⟨by omega, LiveAt.up ⟨?_, ?_, ?_⟩ ?_ a.oldH, by simp [hl3], by simp [hl4], by rw [Bool.or_true] at hgo; exact hgo⟩, Nat.lt_succ_self _⟩
              · (repeat' (first | exact trivial | exact rfl | apply And.intro)); done
              · exact (hla12.old.off.same ((OffS.set B12 xi _).mono (T := fun j => h.n ≤ j) fun j _ e => by rw [e]; exact hiN)).old fun j hj e => by omega
              · exact hla12.i.set hndi hxi (x := joinS n0 s) (by rw [joinS_length]; exact hiL)
              · exact hla12.o.other him rfl hxin _
              · intro j x hx
                have hx : (if j = xi then _ else B12.m j) = some x := hx
                split at hx
                · rename_i e; rw [e]; exact himn
                · exact sB12.dom j x hx
          | succ k =>
            have e14 : ((k + 1 : Nat) : Int) - 1 = (k : Int) := by omega
            rw [e14]
            obtain ⟨x, hx⟩ : ∃ x, b.ins[k]? = some x := ⟨_, List.getElem?_eq_getElem (by omega)⟩
            obtain ⟨xb, xo2, xcs, xe, rfl, hX0, hXl, hXv⟩ := hins.get k x hx
            have hX := hla12.old.up hd _ _ hX0
            have hXn := sB12.dom _ _ hX
            obtain ⟨A2, c2, hXv, hargs⟩ := hXv
            replace hargs := hargs.mono (hla12.old.up hd) fun _ _ h => h
            obtain ⟨hx5, hx6, hx7⟩ := hb5 b hbm x (List.mem_of_getElem? hx)
            repeat (first | ((with_reducible apply RS.moveX); exact rfl; exact rfl; exact rfl; first | exact bnd_int _ _ _ | exact (bnd_ptr _ _).2 hFn | exact (bnd_slice _ _ _ _).2 hMin | exact (bnd_slice _ _ _ _).2 hMon) | ((with_reducible apply RS.load1B); exact rfl; exact rfl; exact rfl; exact hq12; exact hq12n; exact rfl) | ((with_reducible apply RS.loadNB); exact rfl; exact rfl; exact rfl; exact hX; exact hXn; exact hXl; exact hXv) | ((with_reducible apply RS.callEx); exact rfl; exact rfl; exact rfl; intro B13 hB13; refine ⟨_, back_exL s hsl A9 c9 x A2 c2 hL1 (by omega) hx6 hx7 B13 (setAt_up hs12 hB13.up) (hargs.mono hB13.up fun _ _ h => h), ?_⟩; rintro v H13 π13 ⟨hs13, ho13⟩ sH13 hle13) | ((with_reducible apply RS.indexAddrS); exact rfl; exact rfl; exact rfl; exact rfl; exact rfl; omega) | ((with_reducible apply RS.move); exact rfl; exact rfl; exact rfl) | ((with_reducible apply RS.assign); exact rfl; exact rfl; exact rfl) | ((with_reducible apply RS.cmpT); exact rfl; exact rfl; exact rfl; exact rfl; (simp only [cmpP]; omega)) | ((with_reducible apply RS.binFit); exact rfl; exact rfl; exact rfl; exact rfl; exact rfl; omega) | ((with_reducible apply RS.fieldAddr); exact rfl; exact rfl; exact rfl) | ((with_reducible apply RS.nil); exact mixed; kernel_rfl) | ((with_reducible apply W.seq)) | ((with_reducible apply W.reg); kernel_rfl) | ((with_reducible apply W.block)) | ((with_reducible apply W.skip)) | ((with_reducible apply W.condT); kernel_rfl; exact rfl) | ((with_reducible apply thenK_n)) | ((with_reducible apply blockK_n)))
            have o1213 : OffS (SN A9) B12 H13 := hB13.oldH.off.same ho13
            refine roundN_n rfl fun B' a => ⟨(k, backS s x), ?_, ⟨by omega, (hla12.offA sB12.dom hs12 o1213 hA9 hA9h).up sH13.dom a.oldH, a.up _ _ (offA_keep sB12.dom hs12 o1213 hq12 (by simp)), setAt_up hs13 a.up, ?_⟩, Nat.lt_succ_self _⟩
            · (repeat' (first | exact trivial | exact rfl | apply And.intro)); done
            · obtain ⟨q1, q2⟩ := List.getElem?_eq_some_iff.1 hx
              show backS s x = _
              rw [List.drop_eq_getElem_cons q1, q2, List.reverse_cons, List.foldl_append, ← hsk]
              rfl
    · rw [hag]
      subst htg1
      repeat (first | ((with_reducible apply RS.move); exact rfl; exact rfl; exact rfl) | ((with_reducible apply RS.assign); exact rfl; exact rfl; exact rfl) | ((with_reducible apply RS.nil); exact mixed; kernel_rfl) | ((with_reducible apply W.seq)) | ((with_reducible apply W.reg); kernel_rfl) | ((with_reducible apply W.exit)) | ((with_reducible apply W.ret)) | ((with_reducible apply W.condF); kernel_rfl; exact rfl) | ((with_reducible apply thenK_n)) | ((with_reducible apply thenK_e)) | ((with_reducible apply blockK_hit); exact rfl) | ((with_reducible apply roundN_e)))
      refine endsK_ret _ (.cons (.tmp rfl) (.cons (.tmp rfl) .nil)) fun B' a => ⟨ib, ob, ai, ao, st1.ins, st1.outs, rfl, by rw [← hL]; exact hla1.up sB1.dom a.oldH, ?_⟩
      have e : (⟨st1.ins, st1.outs, false⟩ : LiveS) = st1 := by rw [← hag]
      rw [e]; exact hrun
end Go.Proofs.Ytjhloakacicdiaa
namespace Go.Proofs.Ytjhloakacicdiaa
open Go.AH
attribute [local irreducible] W RS
set_option maxRecDepth 100000 in
theorem wanted_tf (x : InsS) (A : Option Addr) (c : Nat) (h : Hp) : TF Try.prog 75 ⟨[.agg ⟨insC x A c⟩]⟩ h (.bool (wantedS x)) h := by
  refine TF.still (fn := Try.f75) (c := (Try.f75.body.getD .skip)) Try.func75 (by kernel_rfl) Try.ntmps75 (by kernel_rfl) (by simp) ?_
  conv => arg 2; whnf
  repeat (first | ((with_reducible apply RS.callP); exact rfl; exact rfl; exact rfl; exact fun H => (traps_tf _ H); exact Nm_free (by simp)) | ((with_reducible apply RS.assign); exact rfl; exact rfl; exact rfl) | ((with_reducible apply RS.fieldAddr); exact rfl; exact rfl; exact rfl) | ((with_reducible apply RS.load1); exact rfl; exact rfl; exact rfl; exact rfl; exact rfl; exact rfl) | ((with_reducible apply RS.box); exact rfl; exact rfl; exact rfl) | ((with_reducible apply RS.nil); exact mixed; kernel_rfl) | ((with_reducible apply W.seq)) | ((with_reducible apply W.reg); kernel_rfl) | ((with_reducible apply W.block)) | ((with_reducible apply thenK_n)))
  repeat' ((first | (((with_reducible apply RS.splitD); exact rfl; exact rfl) <;> intro _) | ((((with_reducible apply RS.splitG); exact rfl; exact rfl) <;> intro _) <;> (fail_if_success (exact absurd ‹true = false› (by decide))) <;> (fail_if_success (exact absurd ‹false = true› (by decide)))) | (((with_reducible apply W.condD); exact rfl) <;> intro _) | ((((with_reducible apply W.cond); exact rfl) <;> intro _) <;> (fail_if_success (exact absurd ‹true = false› (by decide))) <;> (fail_if_success (exact absurd ‹false = true› (by decide))))) <;> repeat (first | ((with_reducible apply RS.callP); exact rfl; exact rfl; exact rfl; exact fun H => (pure_tf _ H); exact Nm_free (by simp)) | ((with_reducible apply RS.move); exact rfl; exact rfl; exact rfl) | ((with_reducible apply RS.assign); exact rfl; exact rfl; exact rfl) | ((with_reducible apply RS.pickT); exact rfl; exact rfl; exact rfl; exact rfl) | ((with_reducible apply RS.pickF); exact rfl; exact rfl; exact rfl; exact rfl) | ((with_reducible apply RS.cmpC); exact rfl; exact rfl; exact rfl; exact rfl; exact rfl) | ((with_reducible apply RS.not); exact rfl; exact rfl; exact rfl) | ((with_reducible apply RS.fieldAddr); exact rfl; exact rfl; exact rfl) | ((with_reducible apply RS.load1); exact rfl; exact rfl; exact rfl; exact rfl; exact rfl; exact rfl) | ((with_reducible apply RS.skip); exact rfl; exact rfl) | ((with_reducible apply RS.nil); exact mixed; kernel_rfl) | ((with_reducible apply W.seq)) | ((with_reducible apply W.reg); kernel_rfl) | ((with_reducible apply W.ret)) | ((with_reducible apply W.skip)) | ((with_reducible apply thenK_n)) | ((with_reducible apply thenK_r)) | ((with_reducible apply blockK_n)) | ((with_reducible apply blockK_r))))
  all_goals refine endsK_ret _ (.cons (.tmp rfl) .nil) ⟨rfl, ?_⟩
  all_goals simp only [resultOf, Value.bool.injEq, wantedS]
  all_goals (rw [Bool.eq_iff_iff]; simp_all; try omega)
theorem sizeS_take {bl : List BlockS} {i : Nat} {b : BlockS} (hb : bl[i]? = some b) : sizeS (bl.take (i + 1)) = sizeS (bl.take i) + b.ins.length := by
  obtain ⟨q1, q2⟩ := List.getElem?_eq_some_iff.1 hb
  unfold sizeS
  rw [List.take_succ_eq_append_getElem q1, q2]
  simp
theorem sizeS_take_le (bl : List BlockS) (i : Nat) : sizeS (bl.take i) ≤ sizeS bl := by
  have : sizeS bl = sizeS (bl.take i) + sizeS (bl.drop i) := by
    unfold sizeS
    rw [← List.sum_append, ← List.map_append, List.take_append_drop]
  omega
set_option maxRecDepth 100000 in
theorem size_tf (fb : Nat) (regs : Int) (A : Option Addr) (c : Nat) (bl : List BlockS) (hlen : bl.length ≤ 100000) (hsz : sizeS bl ≤ 1000000) (h : Hp) (hf : FAt h fb regs A c bl) :
    TF Try.prog 67 ⟨[.pointer (some ⟨fb, 0, none⟩)]⟩ h (.int .i64 (sizeS bl : Int)) h := by
  refine TF.exact (fn := Try.f67) (c := (Try.f67.body.getD .skip)) Try.func67 (by kernel_rfl) Try.ntmps67 (by kernel_rfl) (fun s0 => ⟨Nat.le_refl _, by simp, fun i b hb => ⟨s0.dom i b hb, s0.bd i b hb⟩⟩) fun π s0 => ?_
  conv => arg 2; whnf
  have hd := s0.dom
  obtain ⟨fcs, hF, _, h5⟩ := hf.hf
  have hFn := s0.dom _ _ hF
  repeat (first | ((with_reducible apply RS.load1B); exact rfl; exact rfl; exact rfl; exact hF; exact hFn; exact h5) | ((with_reducible apply RS.nilCheck); exact rfl; exact rfl; exact rfl) | ((with_reducible apply RS.move); exact rfl; exact rfl; exact rfl) | ((with_reducible apply RS.assign); exact rfl; exact rfl; exact rfl) | ((with_reducible apply RS.lenSl); exact rfl; exact rfl; exact rfl) | ((with_reducible apply RS.fieldAddr); exact rfl; exact rfl; exact rfl) | ((with_reducible apply RS.nil); exact mixed; kernel_rfl) | ((with_reducible apply W.seq)) | ((with_reducible apply W.reg); kernel_rfl) | ((with_reducible apply W.block)) | ((with_reducible apply thenK_n)))
  refine W.loopN (X := Nat × Nat) (fun x => [(3, .int .i64 (x.2 : Int)), (9, .slice A bl.length c), (10, .int .i64 (bl.length : Int)), (11, .int .i64 (x.1 : Int))])
    (fun x B => Old h B ∧ x.1 ≤ bl.length ∧ x.2 = sizeS (bl.take x.1)) (fun x => bl.length - x.1) (fun B' a => ⟨(0, 0), ?_, a.oldH, by simp, by simp [sizeS]⟩) ?_
  · (repeat' (first | exact trivial | exact rfl | apply And.intro)); done
  · rintro ⟨i, n⟩ B π sB ⟨hold, hi, hn⟩
    dsimp only at hold hi hn ⊢
    have hf4 := hf.up (hold.up hd)
    by_cases hlt : i < bl.length
    · obtain ⟨b, hb⟩ : ∃ b, bl[i]? = some b := ⟨_, List.getElem?_eq_getElem hlt⟩
      obtain ⟨bb, off, cs, e, rfl, hG, hGl, hGb⟩ := hf4.sl.get _ b hb
      have hGn := sB.dom _ _ hG
      obtain ⟨Ai, ci, hGb, _⟩ := hGb
      have h1 := sizeS_take hb
      have h2 := sizeS_take_le bl (i + 1)
      repeat (first | ((with_reducible apply RS.indexAddrS); exact rfl; exact rfl; exact rfl; exact rfl; exact rfl; omega) | ((with_reducible apply RS.loadNB); exact rfl; exact rfl; exact rfl; exact hG; exact hGn; exact hGl; exact hGb) | ((with_reducible apply RS.move); exact rfl; exact rfl; exact rfl) | ((with_reducible apply RS.assign); exact rfl; exact rfl; exact rfl) | ((with_reducible apply RS.cmpT); exact rfl; exact rfl; exact rfl; exact rfl; (simp only [cmpP]; omega)) | ((with_reducible apply RS.add1); exact rfl; exact rfl; exact rfl; exact rfl; omega) | ((with_reducible apply RS.addNat); exact rfl; exact rfl; exact rfl; exact rfl; omega) | ((with_reducible apply RS.lenSl); exact rfl; exact rfl; exact rfl) | ((with_reducible apply RS.fieldAddr); exact rfl; exact rfl; exact rfl) | ((with_reducible apply RS.load1); exact rfl; exact rfl; exact rfl; exact rfl; exact rfl; exact rfl) | ((with_reducible apply RS.store); exact rfl; exact rfl; exact rfl; exact rfl; exact rfl; exact Nat.le_of_ble_eq_true rfl; exact rfl; exact rfl; exact rfl) | ((with_reducible apply RS.alloc); exact rfl; exact rfl) | ((with_reducible apply RS.nil); exact mixed; kernel_rfl) | ((with_reducible apply W.seq)) | ((with_reducible apply W.reg); kernel_rfl) | ((with_reducible apply W.block)) | ((with_reducible apply W.skip)) | ((with_reducible apply W.condT); kernel_rfl; exact rfl) | ((with_reducible apply thenK_n)) | ((with_reducible apply blockK_n)))
      refine roundN_n rfl fun B' a => ⟨(i + 1, n + b.ins.length), ?_, ⟨hold.trans a.oldH, by omega, ?_⟩, ?_⟩
      · (repeat' (first | exact trivial | exact rfl | apply And.intro)); done
      · show n + b.ins.length = sizeS (bl.take (i + 1))
        omega
      · show bl.length - (i + 1) < bl.length - i
        omega
    · have hii : i = bl.length := by omega
      subst hii
      rw [List.take_length] at hn
      repeat (first | ((with_reducible apply RS.move); exact rfl; exact rfl; exact rfl) | ((with_reducible apply RS.assign); exact rfl; exact rfl; exact rfl) | ((with_reducible apply RS.cmpF); exact rfl; exact rfl; exact rfl; exact rfl; (simp only [cmpN]; omega)) | ((with_reducible apply RS.nil); exact mixed; kernel_rfl) | ((with_reducible apply W.seq)) | ((with_reducible apply W.reg); kernel_rfl) | ((with_reducible apply W.exit)) | ((with_reducible apply W.ret)) | ((with_reducible apply W.condF); kernel_rfl; exact rfl) | ((with_reducible apply thenK_n)) | ((with_reducible apply thenK_e)) | ((with_reducible apply blockK_hit); exact rfl) | ((with_reducible apply roundN_e)))
      exact endsK_ret _ (.cons (.tmp rfl) .nil) fun B' a => ⟨by rw [hn]; rfl, fun j x hj => a.up _ _ (hold.up hd _ _ hj)⟩
end Go.Proofs.Ytjhloakacicdiaa
namespace Go.AH
variable {P : Program}
section
variable {ops : Array Oper} {draw : Bool} {rs : List Rk} {l : List Oper} {fl : List (Nat × Value)} {nt : Nat} {h : SH} {K : Fr → SH → Prop} {d : Tmp} {ty : TypeId} {pos : String} {af : Array Edge} {gd : Option (Nat × Bool)}
theorem RS.quo2 {t yt : TypeId} {x : Operand} {a : Nat} (hw : wantB ops ⟨some d, .binOp .quo t x (.const (.int .i64 2)) yt, ty, pos, af, gd⟩ ⟨fl, nt⟩ = some true) (hd : Nat.blt d nt = true)
    (hx : Fr.ev ⟨fl, nt⟩ x = some (.int .i64 (a : Int))) (ha : a ≤ 9223372036854775807)
    (hk : RS P ops draw (recP h.k false [] (some []) :: rs) l ⟨(d, .int .i64 ((a / 2 : Nat) : Int)) :: fl, nt⟩ h K) : RS P ops draw rs (⟨some d, .binOp .quo t x (.const (.int .i64 2)) yt, ty, pos, af, gd⟩ :: l) ⟨fl, nt⟩ h K := by
  refine RS.quo hw hd hx (b := 2) rfl (by decide) ?_
  have e : IntKind.i64.wrap ((a : Int).tdiv 2) = ((a / 2 : Nat) : Int) := by
    rw [Int.tdiv_eq_ediv_of_nonneg (by omega), wrap64_fit (by omega) (by omega)]; omega
  rw [e]; exact hk
end
end Go.AH
namespace Go.Proofs.Ytjhloakacicdiaa
open Go.AH
attribute [local irreducible] W RS
def swapL {α : Type} (l : List α) (i j : Nat) : List α := match l[i]?, l[j]? with
  | some a, some b => (l.set i b).set j a
  | _, _ => l
def revK {α : Type} (l : List α) : Nat → List α
  | 0 => l
  | k + 1 => swapL (revK l k) k (l.length - 1 - k)
theorem revK_len {α : Type} (l : List α) : ∀ k, (revK l k).length = l.length := by
  intro k
  induction k with
  | zero => rfl
  | succ k ih =>
    unfold revK swapL
    split
    · simp [ih]
    · exact ih
theorem revK_get {α : Type} (l : List α) : ∀ k, 2 * k ≤ l.length → ∀ j, j < l.length → (revK l k)[j]? = if j < k ∨ l.length ≤ j + k then l[l.length - 1 - j]? else l[j]? := by
  intro k
  induction k with
  | zero =>
    intro _ j hj
    rw [if_neg (by omega)]; rfl
  | succ k ih =>
    intro hk j hj
    have h1 := ih (by omega) k (by omega)
    have h2 := ih (by omega) (l.length - 1 - k) (by omega)
    rw [if_neg (by omega)] at h1
    rw [if_neg (by omega)] at h2
    have hl1 : k < l.length := by omega
    have hl2 : l.length - 1 - k < l.length := by omega
    rw [List.getElem?_eq_getElem hl1] at h1
    rw [List.getElem?_eq_getElem hl2] at h2
    have hlen := revK_len l k
    rw [revK, swapL, h1, h2]
    dsimp only
    rw [List.getElem?_set]
    by_cases e1 : l.length - 1 - k = j
    · rw [if_pos e1, if_pos (by rw [List.length_set, hlen]; exact hl2), if_pos (by omega)]
      have : l.length - 1 - j = k := by omega
      rw [this, List.getElem?_eq_getElem hl1]
    · rw [if_neg e1, List.getElem?_set]
      by_cases e2 : k = j
      · rw [if_pos e2, if_pos (by omega), if_pos (by omega)]
        subst e2
        rw [List.getElem?_eq_getElem hl2]
      · rw [if_neg e2, ih (by omega) j hj]
        by_cases e3 : j < k ∨ l.length ≤ j + k
        · rw [if_pos e3, if_pos (by omega)]
        · rw [if_neg e3, if_neg (by omega)]
theorem revK_all {α : Type} (l : List α) : revK l (l.length / 2) = l.reverse := by
  apply List.ext_getElem?
  intro j
  by_cases hj : j < l.length
  · rw [revK_get l _ (by omega) j hj, List.getElem?_reverse hj]
    by_cases e : j < l.length / 2 ∨ l.length ≤ j + l.length / 2
    · rw [if_pos e]
    · rw [if_neg e]
      congr 1
      omega
  · rw [List.getElem?_eq_none_iff.2 (by rw [revK_len]; omega), List.getElem?_eq_none_iff.2 (by rw [List.length_reverse]; omega)]
theorem revK_step {α : Type} (l : List α) {k : Nat} (hk : k < l.length / 2) : ∃ a b, (revK l k)[k]? = some a ∧ (revK l k)[l.length - 1 - k]? = some b ∧ revK l (k + 1) = ((revK l k).set k b).set (l.length - 1 - k) a := by
  have hlen := revK_len l k
  refine ⟨(revK l k)[k]'(by omega), (revK l k)[l.length - 1 - k]'(by omega), List.getElem?_eq_getElem _, List.getElem?_eq_getElem _, ?_⟩
  rw [revK, swapL, List.getElem?_eq_getElem (by omega), List.getElem?_eq_getElem (by omega)]
theorem insrow_take {l : List InsV} {i off : Nat} {x : InsV} (hx : l[i]? = some x) (ho : off = i * 12) : takeV off 12 (l.map insVC).flatten = insVC x ∧ off + 12 ≤ (l.map insVC).flatten.length := by
  subst ho
  exact flat_take (ins_wid l) (by rw [List.getElem?_map, hx]; rfl)
theorem insrow_put {l : List InsV} {i off : Nat} {x y : InsV} (hx : l[i]? = some x) (ho : off = i * 12) : setL (l.map insVC).flatten off (insVC y) = ((l.set i y).map insVC).flatten := by
  have hw := ins_wid l
  have := flat_set hw (i := i) (o := 0) (x := insVC x) (vs := insVC y) (by rw [List.getElem?_map, hx]; rfl) (by rw [insVC_length]; decide)
  rw [ho, List.map_set]
  have e : setL (insVC x) 0 (insVC y) = insVC y := rfl
  rw [e] at this
  simpa using this
theorem insA_sl {h : Hp} {x : InsV} (ha : x.1.args ≠ [] → h.m x.2 = some ⟨⟨argsC x.1.args⟩, 43⟩) : SlAt h (insA x) 2 x.1.args argR := by
  unfold insA
  by_cases e : x.1.args = []
  · rw [e]; exact .nil
  · rw [if_neg e]; exact argR_row (ha e)
theorem rowVl_map {α β : Type} (sz r : Nat) (g : α → β) (l : List α) : rowVl sz r (l.map g) = rowVl sz r l := by cases l <;> simp [rowVl]
theorem Old.offS {a b c : Hp} {S : Nat → Prop} (h1 : Old a b) (h2 : OffS S b c) (hs : ∀ j, S j → a.n ≤ j) : Old a c :=
  ⟨Nat.le_trans h1.1 h2.1, fun i hi => by rw [h2.2 i (Nat.lt_of_lt_of_le hi h1.1) fun e => by have := hs i e; omega, h1.2 i hi]⟩
theorem put_tfL {L : Nat} (s : SetS) (hL : s.length = L) (A : Option Addr) (c : Nat) (i : Int) (hi : fitI i) (hl : L ≤ 1000000000) (h : Hp) (hs : SetAt h A s) : TF Try.prog 31 ⟨[.slice A L c, .int .i64 i]⟩ h (.tuple #[]) (setH h A (putS s i)) := by
  subst hL; exact put_tf s A c i hi hl h hs
theorem has_tfL {L : Nat} (s : SetS) (hL : s.length = L) (A : Option Addr) (c : Nat) (i : Int) (hi : fitI i) (hl : L ≤ 1000000000) (h : Hp) (hs : SetAt h A s) : TF Try.prog 12 ⟨[.slice A L c, .int .i64 i]⟩ h (.bool (hasS s i)) h := by
  subst hL; exact has_tf s A c i hi hl h hs
theorem onceL_len : ∀ (bl : List BlockS) (os : List SetS), (onceL bl os).length = bl.length
  | [], [] => rfl
  | [], _ :: _ => rfl
  | _ :: _, [] => rfl
  | b :: bl, o :: os => by rw [onceL, List.length_cons, List.length_cons, onceL_len bl os]
theorem onceL_get : ∀ (bl : List BlockS) (os : List SetS) (i : Nat) (b : BlockS) (o : SetS), bl[i]? = some b → os[i]? = some o → (onceL bl os)[i]? = some (onceB b o)
  | [], _, _, _, _, h, _ => by simp at h
  | _ :: _, [], _, _, _, _, h => by simp at h
  | b :: bl, o :: os, 0, _, _, h1, h2 => by
    simp at h1 h2
    subst h1; subst h2; rfl
  | b :: bl, o :: os, i + 1, b', o', h1, h2 => by
    rw [onceL, List.getElem?_cons_succ]
    exact onceL_get bl os i b' o' (by simpa using h1) (by simpa using h2)
structure OnI (h : Hp) (bb : Nat) (bv : List BV) (fb : Nat) (f : FuncS) (A1 : Option Addr) (c1 : Nat) (A2 : Option Addr) (c2 c3 rb ob : Nat) (ao : List Nat) (L N : Nat) (outs : List SetS) (i : Nat) (bw : List BV) (B : Hp) : Prop where
  own : OwnB B bb bw
  fm : B.m fb = some ⟨⟨funcC f A1 c1 A2 c2 (some ⟨bb, 0, none⟩) c3⟩, 35⟩
  rm : B.m rb = some ⟨⟨cellsV (.agg ⟨funcC ⟨⟨#[]⟩, 0, 0, 0, [], []⟩ none 0 none 0 none 0⟩)⟩, 35⟩
  off : OffS (fun j => j = bb) h B
  so : SetsAt B N ob ao outs L
  len : bw.length = bv.length
  rest : ∀ j, i ≤ j → bw[j]? = bv[j]?
  new : ∀ b ∈ bw.take i, b.ins ≠ [] → h.n ≤ b.r
  pl : (sL bw).take i = (onceL (sL bv) outs).take i
  sub : ∀ b' ∈ bw, ∀ x ∈ b'.ins, ∃ b ∈ bv, x ∈ b.ins
theorem OnI.up {h : Hp} {bb : Nat} {bv : List BV} {fb : Nat} {f : FuncS} {A1 : Option Addr} {c1 : Nat} {A2 : Option Addr} {c2 c3 rb ob : Nat} {ao : List Nat} {L N : Nat} {outs : List SetS} {i : Nat} {bw : List BV} {B B' : Hp} (s : OnI h bb bv fb f A1 c1 A2 c2 c3 rb ob ao L N outs i bw B) (hd : ∀ i x, B.m i = some x → i < B.n) (o : Old B B') : OnI h bb bv fb f A1 c1 A2 c2 c3 rb ob ao L N outs i bw B' :=
  ⟨s.own.up (o.up hd), o.up hd _ _ s.fm, o.up hd _ _ s.rm, s.off.same o.off, s.so.up (o.up hd), s.len, s.rest, s.new, s.pl, s.sub⟩
theorem OnI.next {h : Hp} {bb : Nat} {bv : List BV} {fb : Nat} {f : FuncS} {A1 : Option Addr} {c1 : Nat} {A2 : Option Addr} {c2 c3 rb ob : Nat} {ao : List Nat} {L N : Nat} {outs : List SetS} {i : Nat} {bw : List BV} {B H : Hp} (s : OnI h bb bv fb f A1 c1 A2 c2 c3 rb ob ao L N outs i bw B) (hd : ∀ i x, B.m i = some x → i < B.n) (hH : rwM ≤ h.n)
    {b : BV} (hb : bv[i]? = some b) {o : SetS} (ho : outs[i]? = some o) {acc : List InsV} {r : Nat} (hT : acc.map (·.1) = (onceB b.s o).ins) (hsub : ∀ x ∈ acc, x ∈ b.ins) (hold : Old B H)
    (hrow : acc ≠ [] → B.n ≤ r ∧ H.m r = some ⟨⟨(acc.map insVC).flatten⟩, 64⟩) :
    OnI h bb bv fb f A1 c1 A2 c2 c3 rb ob ao L N outs (i + 1) (bw.set i ⟨acc, r, b.term⟩) (H.set bb ⟨⟨((bw.set i ⟨acc, r, b.term⟩).map BV.c).flatten⟩, 47⟩) := by
  have hi : i < bv.length := (List.getElem?_eq_some_iff.1 hb).1
  have hil : i < bw.length := by rw [s.len]; exact hi
  have hbw : bw[i]? = some b := by rw [s.rest i (Nat.le_refl _)]; exact hb
  have s' := s.up hd hold
  have hO := s'.own.m
  have keep : ∀ {j : Nat} {x : Blk}, H.m j = some x → x.elem ≠ 47 → ∀ z, (H.set bb z).m j = some x := by
    intro j x hx he z
    show (if j = bb then _ else _) = _
    rw [if_neg (ne_of_elem hx hO he)]
    exact hx
  have hbn : h.n ≤ B.n := s.off.1
  have hrows : ∀ x ∈ bw, x.ins ≠ [] → x.r < B.n := fun x hx hn => hd _ _ (s.own.row x hx hn).2
  refine ⟨s'.own.setI (by show (if bb = bb then _ else _) = _; rw [if_pos rfl]) (fun j x hx he => keep hx (by rw [he]; decide) _) (fun j x hx hj hn => ?_) (fun hn => ⟨Nat.le_trans (Nat.le_trans hH hbn) (hrow hn).1, keep (hrow hn).2 (by simp) _⟩) (fun x hx hn => ?_) (fun j x hx hj hn hn' e => ?_), keep s'.fm (by simp) _, keep s'.rm (by simp) _, s'.off.same (OffS.set _ _ _), ?_, by simp [s.len], fun j hj => ?_, fun x hx hn => ?_, ?_, fun x hx y hy => ?_⟩
  · have := (s'.own.row x (List.mem_of_getElem? hx) hn).2
    rw [keep this (by simp), this]
  · exact s'.own.arg b (List.mem_of_getElem? hbw) x (hsub x hx) hn
  · have h1 := hrows x (List.mem_of_getElem? hx) hn
    have h2 := (hrow hn').1
    have e : x.r = r := e
    omega
  · have hob' : ob ≠ bb := ne_of_elem s'.so.m hO (by simp)
    refine ⟨keep s'.so.m (by simp) _, s'.so.len, fun j a x h1 h2 => ⟨keep (s'.so.pt j a x h1 h2).1 (by simp) _, (s'.so.pt j a x h1 h2).2⟩⟩
  · rw [List.getElem?_set, if_neg (by omega)]
    exact s.rest j (by omega)
  · rw [List.take_set] at hx
    obtain ⟨j, hj⟩ := List.mem_iff_getElem?.1 hx
    rw [List.getElem?_set] at hj
    split at hj
    · split at hj
      · have hj := Option.some.inj hj
        subst hj
        exact Nat.le_trans hbn (hrow hn).1
      · exact absurd hj (by simp)
    · rename_i hne
      have hjl : j < i + 1 := by
        have := (List.getElem?_eq_some_iff.1 hj).1
        simp at this
        omega
      rw [List.getElem?_take_of_lt hjl] at hj
      exact s.new x (List.mem_of_getElem? (i := j) (by rw [List.getElem?_take_of_lt (show j < i by omega)]; exact hj)) hn
  · rw [sL_set]
    have hbs : (⟨acc, r, b.term⟩ : BV).s = onceB b.s o := by
      unfold BV.s
      show (⟨acc.map (·.1), b.term⟩ : BlockS) = _
      rw [hT]; rfl
    have h1 := onceL_get (sL bv) outs i b.s o (sL_at hb) ho
    apply List.ext_getElem?
    intro j
    by_cases hj : j < i + 1
    · rw [List.getElem?_take_of_lt hj, List.getElem?_take_of_lt hj, List.getElem?_set]
      by_cases e : i = j
      · subst e
        rw [if_pos rfl, if_pos (by rw [sL_length]; exact hil), hbs, h1]
      · rw [if_neg e]
        have := congrArg (fun l => l[j]?) s.pl
        simp only [List.getElem?_take_of_lt (show j < i by omega)] at this
        exact this
    · rw [List.getElem?_eq_none_iff.2 (by simp; omega), List.getElem?_eq_none_iff.2 (by simp; omega)]
  · rcases mem_set hx with h1 | h1
    · exact s.sub x h1 y hy
    · subst h1
      exact ⟨b, List.mem_of_getElem? hb, hsub y hy⟩
end Go.Proofs.Ytjhloakacicdiaa
namespace Go.Proofs.Ytjhloakacicdiaa
open Go.AH
attribute [local irreducible] W RS
theorem liveDown_outs (bl : List BlockS) : ∀ (i : Nat) (st : LiveS), (liveDown bl i st).outs.length = st.outs.length := by
  intro i
  induction i with
  | zero => intro st; rfl
  | succ i ih =>
    intro st
    rw [liveDown, ih]
    unfold liveStep
    split
    · simp
    · rfl
theorem liveRun_len {bl : List BlockS} {a b : LiveS} (h : LiveRun bl a b) : b.outs.length = a.outs.length := by
  induction h with
  | stop h => unfold liveRound; rw [liveDown_outs]
  | go _ _ ih => rw [ih]; unfold liveRound; rw [liveDown_outs]
theorem once_push {B B9 B10 H11 B12 H13 : Hp} {A7 : Option Addr} {s' : SetS} {acc : List InsV} {r : Nat} (O9 : Old B B9) (o10 : Old B9 B10) (ho11 : OffS (SN A7) B10 H11) (hA7 : ∀ j, SN A7 j → B.n ≤ j) (o12 : Old H11 B12) (hs11 : SetAt H11 A7 s') (hd12 : ∀ i b, B12.m i = some b → i < B12.n) (hd11 : ∀ i b, H11.m i = some b → i < H11.n)
    (hr12 : acc ≠ [] → B12.m r = some ⟨⟨(acc.map insVC).flatten⟩, 64⟩) (hr : acc ≠ [] → B.n ≤ r) (hle13 : B12.n ≤ H13.n) (hoff13 : ∀ i, i < B12.n → (acc.map insVC ≠ [] → i ≠ r) → H13.m i = B12.m i) : Old B H13 ∧ SetAt H13 A7 s' ∧ B.n ≤ B12.n := by
  have O12 := ((O9.trans o10).offS ho11 hA7).trans o12
  have hoffr : OffS (fun j => acc ≠ [] ∧ j = r) B12 H13 := ⟨hle13, fun j hj hS => hoff13 j hj fun hn e => hS ⟨fun e => hn (by rw [e]; rfl), e⟩⟩
  refine ⟨O12.offS hoffr fun j e => by rw [e.2]; exact hr e.1, ?_, O12.1⟩
  have hs12 := setAt_up hs11 (o12.up hd11)
  cases hs12 with
  | none => exact .none
  | some hm hr' => exact .some (by rw [hoffr.2 _ (hd12 _ _ hm) fun e => ne_of_elem hm (hr12 e.1) (by simp) e.2]; exact hm) hr'
set_option maxHeartbeats 1600000 in
set_option maxRecDepth 100000 in
theorem once_ex (h : Hp) (bb : Nat) (bv : List BV) (f : FuncS) (A1 : Option Addr) (c1 : Nat) (A2 : Option Addr) (c2 c3 : Nat) (hfl : f.blocks = sL bv) (hpos : 0 < bv.length) (hlen : bv.length ≤ 100000)
    (hob : OwnB h bb bv) (hr0 : 0 ≤ f.regs) (hr1 : f.regs ≤ 1000000) (htg : tgtOK (sL bv)) (hb4 : ∀ b ∈ sL bv, b.ins.length ≤ 1000000) (hb5 : ∀ b ∈ sL bv, ∀ x ∈ b.ins, x.args.length ≤ 1000000 ∧ fitI x.dst ∧ ∀ a ∈ readsS x, fitI a.reg) (hb6 : ∀ b ∈ sL bv, ∀ a ∈ treadsS b.term, fitI a.reg) :
    EX Try.prog 68 [.agg ⟨funcC f A1 c1 A2 c2 (some ⟨bb, 0, none⟩) c3⟩] h (fun v h' => ∃ bv', v = .agg ⟨funcC { f with blocks := sL bv' } A1 c1 A2 c2 (some ⟨bb, 0, none⟩) c3⟩ ∧ OwnB h' bb bv' ∧ OnceS f.regs (sL bv) (sL bv') ∧ OffS (fun j => j = bb) h h' ∧ (∀ b ∈ bv', b.ins ≠ [] → h.n ≤ b.r) ∧ ∀ b' ∈ bv', ∀ x ∈ b'.ins, ∃ b ∈ bv, x ∈ b.ins) := by
  refine EX.intro (fn := Try.f68) (c := (Try.f68.body.getD .skip)) Try.func68 (by kernel_rfl) Try.ntmps68 (by kernel_rfl) fun π s0 => ?_
  conv => arg 2; whnf
  have hd := s0.dom
  have hfl' : f.blocks.length = bv.length := by rw [hfl, sL_length]
  have hpos' : 0 < (sL bv).length := by rw [sL_length]; omega
  have hlen' : (sL bv).length ≤ 100000 := by rw [sL_length]; omega
  ((with_reducible apply W.seq); repeat (first | ((with_reducible apply RS.alloc); exact rfl; exact rfl) | ((with_reducible apply RS.box); exact rfl; exact rfl; exact rfl) | ((with_reducible apply RS.nil); exact mixed; kernel_rfl) | ((with_reducible apply W.reg); kernel_rfl) | ((with_reducible apply thenK_n))))
  refine W.absorbX fun B0 π0 a0 => ?_
  have hF0 : B0.m (π 0) = some ⟨⟨funcC f A1 c1 A2 c2 (some ⟨bb, 0, none⟩) c3⟩, 35⟩ := a0.loc 0 (Nat.lt_of_lt_of_le Nat.zero_lt_one (Nat.le_succ 1))
  have hfb : h.n ≤ π 0 := a0.lo 0 (Nat.lt_of_lt_of_le Nat.zero_lt_one (Nat.le_succ 1))
  have hrb : h.n ≤ π 1 := a0.lo 1 (Nat.lt_succ_self 1)
  have hRb0 : B0.m (π 1) = some ⟨⟨cellsV (.agg ⟨funcC ⟨⟨#[]⟩, 0, 0, 0, [], []⟩ none 0 none 0 none 0⟩)⟩, 35⟩ := a0.loc 1 (Nat.lt_succ_self 1)
  have hfr : π 0 ≠ π 1 := fun e => absurd (a0.inj 0 1 (Nat.lt_of_lt_of_le Nat.zero_lt_one (Nat.le_succ 1)) (Nat.lt_succ_self 1) e) (by decide)
  generalize π 0 = fb at *
  generalize π 1 = rb at *
  have hRw : rwM ≤ rb := Nat.le_trans s0.rw hrb
  have hFw : rwM ≤ fb := Nat.le_trans s0.rw hfb
  have hfat : FAt B0 fb f.regs (some ⟨bb, 0, none⟩) c3 (sL bv) := FunB.at ⟨hF0, hFw⟩ (hob.up a0.up) hfl'
  ((with_reducible apply W.seq); repeat (first | ((with_reducible apply RS.callEx); exact rfl; exact rfl; exact rfl; intro B1 hB1; refine ⟨_, live_ex fb f.regs (some ⟨bb, 0, none⟩) c3 (sL bv) hpos' hlen' hr0 hr1 htg hb4 hb5 hb6 B1 (hfat.up hB1.up), ?_⟩; rintro v H1 π1 ⟨ib, ob, ai, ao, ins, outs, rfl, hla, hrun⟩ sH1 hle1) | ((with_reducible apply RS.move); exact rfl; exact rfl; exact rfl) | ((with_reducible apply RS.assign); exact rfl; exact rfl; exact rfl) | ((with_reducible apply RS.extract); exact rfl; exact rfl; exact rfl; exact rfl) | ((with_reducible apply RS.nil); exact mixed; kernel_rfl) | ((with_reducible apply W.reg); kernel_rfl) | ((with_reducible apply thenK_n))))
  generalize hLL : (emptyS f.regs).length = L at *
  have hL1 : L ≤ 1000000000 := by rw [← hLL, emptyS_length]; omega
  have hUp1 := (hB1.oldH.trans hla.old).up a0.dom
  have hF1 := hUp1 _ _ hF0
  have hF1n := sH1.dom _ _ hF1
  have old1 : Old h H1 := a0.oldH.trans (hB1.oldH.trans hla.old)
  have hN1 : h.n ≤ B1.n := Nat.le_trans a0.le hB1.le
  have hI0 : OnI h bb bv fb f A1 c1 A2 c2 c3 rb ob ao L h.n outs 0 bv H1 :=
    ⟨hob.up (old1.up hd), hF1, hUp1 _ _ hRb0, old1.off, ⟨hla.o.m, hla.o.len, fun i a x h1 h2 => ⟨(hla.o.pt i a x h1 h2).1, (hla.o.pt i a x h1 h2).2.1, Nat.le_trans hN1 (hla.o.pt i a x h1 h2).2.2⟩⟩, rfl, fun _ _ => rfl, (fun b hb => by simp at hb), by simp, fun b hb x hx => ⟨b, hb, hx⟩⟩
  have hol : outs.length = bv.length := by
    have := liveRun_len hrun
    simp only [live0, List.length_replicate, sL_length] at this
    exact this
  have honce : OnceS f.regs (sL bv) (onceL (sL bv) outs) := .mk hrun
  rw [sL_length]
  clear hla hUp1 hB1
  rw [← hfl']
  ((with_reducible apply W.seq); repeat (fail))
  ((with_reducible apply W.seq); repeat (first | ((with_reducible apply RS.load1B); exact rfl; exact rfl; exact rfl; exact hF1; exact hF1n; exact rfl) | ((with_reducible apply RS.move); exact rfl; exact rfl; exact rfl) | ((with_reducible apply RS.lenSl); exact rfl; exact rfl; exact rfl) | ((with_reducible apply RS.fieldAddr); exact rfl; exact rfl; exact rfl) | ((with_reducible apply RS.nil); exact mixed; kernel_rfl) | ((with_reducible apply W.reg); kernel_rfl) | ((with_reducible apply W.block)) | ((with_reducible apply thenK_n))))
  refine W.loopN (X := Nat × List BV) (fun x => [(1, .pointer (some ⟨fb, 0, none⟩)), (2, .pointer (some ⟨rb, 0, none⟩)), (4, .slice (some ⟨ob, 0, none⟩) f.blocks.length f.blocks.length), (20, .int .i64 (f.blocks.length : Int)), (21, .int .i64 (x.1 : Int))])
    (fun x B => x.1 ≤ bv.length ∧ OnI h bb bv fb f A1 c1 A2 c2 c3 rb ob ao L h.n outs x.1 x.2 B) (fun x => bv.length - x.1)
    (fun B' a => ⟨(0, bv), ?_, ⟨Nat.zero_le _, hI0.up sH1.dom a.oldH⟩⟩) ?_
  · (repeat' (first | exact trivial | exact rfl | apply And.intro)); done
  rintro ⟨i, bw⟩ B πB sB ⟨hi, hI⟩
  dsimp only at hi hI ⊢
  have hF := hI.fm
  have hFn := sB.dom _ _ hF
  by_cases hlt : i < bv.length
  · obtain ⟨b, hb⟩ : ∃ b, bv[i]? = some b := ⟨_, List.getElem?_eq_getElem hlt⟩
    have hbw : bw[i]? = some b := by rw [hI.rest i (Nat.le_refl _)]; exact hb
    obtain ⟨o, ho⟩ : ∃ o, outs[i]? = some o := ⟨_, List.getElem?_eq_getElem (by omega)⟩
    obtain ⟨xo, hxo⟩ : ∃ xo, ao[i]? = some xo := ⟨_, List.getElem?_eq_getElem (by rw [hI.so.len]; omega)⟩
    have hMo := hI.so.m
    have hMon := sB.dom _ _ hMo
    have hoc : (ao.map (setV L))[0 + i * 1]? = some (.slice (some ⟨xo, 0, none⟩) L L) := by rw [Nat.zero_add, Nat.mul_one, List.getElem?_map, hxo]; rfl
    obtain ⟨hom, hoL, hoN⟩ := hI.so.pt i xo o hxo ho
    have hbm : b.s ∈ sL bv := List.mem_map_of_mem (List.mem_of_getElem? hb)
    have hbwm := List.mem_of_getElem? hbw
    ((with_reducible apply W.seq); repeat (first | ((with_reducible apply RS.cmpT); exact rfl; exact rfl; exact rfl; exact rfl; (simp only [cmpP]; omega)) | ((with_reducible apply RS.nil); exact mixed; kernel_rfl) | ((with_reducible apply W.reg); kernel_rfl) | ((with_reducible apply thenK_n))))
    ((with_reducible apply W.seq); repeat (first | ((with_reducible apply W.skip)) | ((with_reducible apply W.condT); kernel_rfl; exact rfl) | ((with_reducible apply thenK_n))))
    ((with_reducible apply W.seq); repeat (first | ((with_reducible apply W.block))))
    ((with_reducible apply W.seq); repeat (first | ((with_reducible apply RS.move); exact rfl; exact rfl; exact rfl) | ((with_reducible apply RS.assign); exact rfl; exact rfl; exact rfl) | ((with_reducible apply RS.nil); exact mixed; kernel_rfl) | ((with_reducible apply W.reg); kernel_rfl) | ((with_reducible apply thenK_n))))
    ((with_reducible apply W.seq); repeat (first | ((with_reducible apply RS.load1B); exact rfl; exact rfl; exact rfl; exact hF; exact hFn; exact rfl) | ((with_reducible apply RS.indexAddrS); exact rfl; exact rfl; exact rfl; exact rfl; exact rfl; omega) | ((with_reducible apply RS.move); exact rfl; exact rfl; exact rfl) | ((with_reducible apply RS.assign); exact rfl; exact rfl; exact rfl) | ((with_reducible apply RS.fieldAddr); exact rfl; exact rfl; exact rfl) | ((with_reducible apply RS.nil); exact mixed; kernel_rfl) | ((with_reducible apply W.reg); kernel_rfl) | ((with_reducible apply thenK_n))))
    ((with_reducible apply W.seq); repeat (first | ((with_reducible apply RS.load1B); exact rfl; exact rfl; exact rfl; exact hMo; exact hMon; exact hoc) | ((with_reducible apply RS.indexAddrS); exact rfl; exact rfl; exact rfl; exact rfl; exact rfl; omega) | ((with_reducible apply RS.callEx); exact rfl; exact rfl; exact rfl; intro B2 hB2; refine ⟨_, setcopy_exL o hoL (some ⟨xo, 0, none⟩) L hL1 B2 (.some (hB2.up _ _ hom) (Nat.le_trans s0.rw hoN)), ?_⟩; rintro v H3 π3 ⟨A7, c7, rfl, hs3, ho3, hn3⟩ sH3 hle3) | ((with_reducible apply RS.move); exact rfl; exact rfl; exact rfl) | ((with_reducible apply RS.assign); exact rfl; exact rfl; exact rfl) | ((with_reducible apply RS.nil); exact mixed; kernel_rfl) | ((with_reducible apply W.reg); kernel_rfl) | ((with_reducible apply thenK_n))))
    have hA7 : ∀ j, SN A7 j → B.n ≤ j := fun j e => Nat.le_trans hB2.le (hn3 _ e)
    have O3 : Old B H3 := hB2.oldH.trans ho3
    have hO3 := O3.up sB.dom _ _ hI.own.m
    have hO3n := sH3.dom _ _ hO3
    ((with_reducible apply W.seq); repeat (fail))
    ((with_reducible apply W.seq); repeat (first | ((with_reducible apply RS.loadNB); exact rfl; exact rfl; exact rfl; exact hO3; exact hO3n; exact (bv_term hbw (by omega)).2; exact (bv_term hbw (by omega)).1) | ((with_reducible apply RS.callEx); exact rfl; exact rfl; exact rfl; intro B4 hB4; refine ⟨_, treads_ex b.term B4, ?_⟩; rintro v H5 π5 ⟨A8, c8, rfl, hr5, ho5⟩ sH5 hle5) | ((with_reducible apply RS.nilCheck); exact rfl; exact rfl; exact rfl) | ((with_reducible apply RS.move); exact rfl; exact rfl; exact rfl) | ((with_reducible apply RS.lenSl); exact rfl; exact rfl; exact rfl) | ((with_reducible apply RS.fieldAddr); exact rfl; exact rfl; exact rfl) | ((with_reducible apply RS.nil); exact mixed; kernel_rfl) | ((with_reducible apply W.reg); kernel_rfl) | ((with_reducible apply W.block)) | ((with_reducible apply thenK_n))))
    have O5 : Old B H5 := O3.trans (hB4.oldH.trans ho5)
    have hs5 := setAt_up hs3 ((hB4.oldH.trans ho5).up sH3.dom)
    have hfits := hb6 b.s hbm
    refine W.loopN (X := Nat) (fun j => [(1, .pointer (some ⟨fb, 0, none⟩)), (2, .pointer (some ⟨rb, 0, none⟩)), (4, .slice (some ⟨ob, 0, none⟩) f.blocks.length f.blocks.length), (20, .int .i64 (f.blocks.length : Int)), (21, .int .i64 (i : Int)), (6, .pointer (some ⟨bb, 0 + i * 9, none⟩)), (7, .slice A7 L c7), (37, .slice A8 (treadsS b.term).length c8), (38, .int .i64 ((treadsS b.term).length : Int)), (39, .int .i64 (j : Int))])
      (fun j Bx => j ≤ (treadsS b.term).length ∧ Old B Bx ∧ SetAt Bx A7 (useS o ((treadsS b.term).take j)) ∧ SlAt Bx A8 2 (treadsS b.term) argR) (fun j => (treadsS b.term).length - j)
      (fun B' a => ⟨0, ?_, ⟨Nat.zero_le _, O5.trans a.oldH, by rw [List.take_zero]; exact setAt_up hs5 a.up, hr5.mono a.up fun _ _ h => h⟩⟩) ?_
    · (repeat' (first | exact trivial | exact rfl | apply And.intro)); done
    rintro j B6 π6 sB6 ⟨hj, O6, hs6, hr6⟩
    have hs6L : (useS o ((treadsS b.term).take j)).length = L := by rw [useS_length]; exact hoL
    have htl := treads_len b.term
    by_cases hjl : j < (treadsS b.term).length
    · obtain ⟨x, hx⟩ : ∃ x, (treadsS b.term)[j]? = some x := ⟨_, List.getElem?_eq_getElem hjl⟩
      obtain ⟨mb, off, cs, e, rfl, hM, hMl, hMv⟩ := hr6.get j x hx
      have hMn := sB6.dom _ _ hM
      have hMv : takeV (off + j * 2) 2 cs = argC x := hMv
      have hfa := hfits x (List.mem_of_getElem? hx)
      repeat (first | ((with_reducible apply RS.indexAddrS); exact rfl; exact rfl; exact rfl; exact rfl; exact rfl; omega) | ((with_reducible apply RS.loadNB); exact rfl; exact rfl; exact rfl; exact hM; exact hMn; exact hMl; exact hMv) | ((with_reducible apply RS.callEx); exact rfl; exact rfl; exact rfl; intro B7 hB7; refine ⟨_, TF.ex (put_tfL _ hs6L A7 c7 _ hfa hL1 B7 (setAt_up hs6 hB7.up)), ?_⟩; rintro v H' π7 ⟨rfl, rfl⟩ sH7 hle7) | ((with_reducible apply RS.move); exact rfl; exact rfl; exact rfl) | ((with_reducible apply RS.cmpT); exact rfl; exact rfl; exact rfl; exact rfl; (simp only [cmpP]; omega)) | ((with_reducible apply RS.add1); exact rfl; exact rfl; exact rfl; exact rfl; omega) | ((with_reducible apply RS.fieldAddr); exact rfl; exact rfl; exact rfl) | ((with_reducible apply RS.load1); exact rfl; exact rfl; exact rfl; exact rfl; exact rfl; exact rfl) | ((with_reducible apply RS.store); exact rfl; exact rfl; exact rfl; exact rfl; exact rfl; exact Nat.le_of_ble_eq_true rfl; exact rfl; exact rfl; exact rfl) | ((with_reducible apply RS.alloc); exact rfl; exact rfl) | ((with_reducible apply RS.nil); exact mixed; kernel_rfl) | ((with_reducible apply W.seq)) | ((with_reducible apply W.reg); kernel_rfl) | ((with_reducible apply W.block)) | ((with_reducible apply W.skip)) | ((with_reducible apply W.condT); kernel_rfl; exact rfl) | ((with_reducible apply thenK_n)) | ((with_reducible apply blockK_n)))
      have hs7 := setAt_up hs6 hB7.up
      refine roundN_n rfl fun B' a => ⟨j + 1, ?_, ⟨by omega, ((O6.trans hB7.oldH).offS (setH_off hs7) hA7).trans a.oldH, ?_, (SlAt.setH hB7.dom (hr6.mono hB7.up fun _ _ h => h) hs7).mono a.up fun _ _ h => h⟩, by omega⟩
      · (repeat' (first | exact trivial | exact rfl | apply And.intro)); done
      · rw [useS_take hx]
        exact setAt_up (setH_at hs7 (putS_length _ _)) a.up
    have hjj : j = (treadsS b.term).length := by omega
    rw [hjj, List.take_length] at hs6 hs6L
    have hO6 := O6.up sB.dom _ _ hI.own.m
    have hO6n := sB6.dom _ _ hO6
    have hbil : b.ins.length ≤ 1000000 := by have := hb4 b.s hbm; simpa [BV.s] using this
    have hcell0 : (bw.map BV.c).flatten[0 + i * 9 + 0]? = some (.slice b.A b.ins.length b.k) := bv_cell (o := 0) hbw (by omega) (by decide) (by rw [BVc_eq]; simp [blockC, BV.s])
    ((with_reducible apply W.seq); repeat (first | ((with_reducible apply RS.cmpF); exact rfl; exact rfl; exact rfl; exact rfl; (simp only [cmpN]; omega)) | ((with_reducible apply RS.nil); exact mixed; kernel_rfl) | ((with_reducible apply W.reg); kernel_rfl) | ((with_reducible apply thenK_n))))
    ((with_reducible apply W.seq); repeat (first | ((with_reducible apply W.exit)) | ((with_reducible apply W.condF); kernel_rfl; exact rfl) | ((with_reducible apply thenK_n)) | ((with_reducible apply thenK_e)) | ((with_reducible apply blockK_hit); exact rfl) | ((with_reducible apply roundN_e))))
    ((with_reducible apply W.seq); repeat (first | ((with_reducible apply RS.assign); exact rfl; exact rfl; exact rfl) | ((with_reducible apply RS.nil); exact mixed; kernel_rfl) | ((with_reducible apply W.reg); kernel_rfl) | ((with_reducible apply thenK_n))))
    ((with_reducible apply W.seq); repeat (fail))
    ((with_reducible apply W.seq); repeat (first | ((with_reducible apply RS.load1B); exact rfl; exact rfl; exact rfl; exact hO6; exact hO6n; exact hcell0) | ((with_reducible apply RS.nilCheck); exact rfl; exact rfl; exact rfl) | ((with_reducible apply RS.move); exact rfl; exact rfl; exact rfl) | ((with_reducible apply RS.assign); exact rfl; exact rfl; exact rfl) | ((with_reducible apply RS.binFit); exact rfl; exact rfl; exact rfl; exact rfl; exact rfl; omega) | ((with_reducible apply RS.lenSl); exact rfl; exact rfl; exact rfl) | ((with_reducible apply RS.fieldAddr); exact rfl; exact rfl; exact rfl) | ((with_reducible apply RS.nil); exact mixed; kernel_rfl) | ((with_reducible apply W.reg); kernel_rfl) | ((with_reducible apply W.block)) | ((with_reducible apply thenK_n))))
    refine W.loopN (X := Nat × SetS × List InsV × Nat) (fun x => [(1, .pointer (some ⟨fb, 0, none⟩)), (2, .pointer (some ⟨rb, 0, none⟩)), (4, .slice (some ⟨ob, 0, none⟩) f.blocks.length f.blocks.length), (20, .int .i64 (f.blocks.length : Int)), (21, .int .i64 (i : Int)), (6, .pointer (some ⟨bb, 0 + i * 9, none⟩)), (7, .slice A7 L c7), (10, rowVl 12 x.2.2.2 (x.2.2.1.map insVC)), (11, .int .i64 ((x.1 : Int) - 1))])
      (fun x Bx => x.1 ≤ b.ins.length ∧ Old B Bx ∧ SetAt Bx A7 x.2.1 ∧ x.2.1.length = L ∧ onceGo ((b.ins.take x.1).map (·.1)).reverse x.2.1 (x.2.2.1.map (·.1)).reverse = (onceB b.s o).ins ∧ (∀ y ∈ x.2.2.1, y ∈ b.ins) ∧ x.2.2.1.length + x.1 ≤ b.ins.length ∧ (x.2.2.1 ≠ [] → B.n ≤ x.2.2.2 ∧ Bx.m x.2.2.2 = some ⟨⟨(x.2.2.1.map insVC).flatten⟩, 64⟩)) (fun x => x.1)
      (fun B' a => ⟨(b.ins.length, useS o (treadsS b.term), [], 0), ?_, ⟨Nat.le_refl _, O6.trans a.oldH, setAt_up hs6 a.up, hs6L, by dsimp only; rw [List.take_length]; rfl, (fun y hy => by cases hy), by simp, fun hn => absurd rfl hn⟩⟩) ?_
    · dsimp only
      (repeat' (first | exact trivial | exact rfl | apply And.intro)); done
    rintro ⟨k, s, acc, r⟩ B8 π8 sB8 ⟨hk, O8, hs8, hsL, hgo, hsub, hal, hrow⟩
    dsimp only at hk O8 hs8 hsL hgo hsub hal hrow ⊢
    have hO8 := O8.up sB.dom _ _ hI.own.m
    have hO8n := sB8.dom _ _ hO8
    cases k with
    | zero =>
      rw [List.take_zero] at hgo
      have hT : acc.reverse.map (·.1) = (onceB b.s o).ins := by rw [List.map_reverse]; exact hgo
      obtain ⟨AA, hAA⟩ : ∃ AA : Option Addr, (if acc = [] then none else some ⟨r, 0, none⟩) = AA := ⟨_, rfl⟩
      obtain ⟨cc, hcc⟩ : ∃ cc : Nat, (if acc = [] then 0 else capOf 12) = cc := ⟨_, rfl⟩
      have hV : rowVl 12 r (acc.map insVC) = .slice AA acc.length cc := by rw [rowVl_map, rowVl_eq, hAA, hcc]
      have hV2 : (.slice AA acc.length cc : Value) = rowVl 12 r acc.reverse := by rw [rowVl_eq, ← hAA, ← hcc, List.length_reverse]; simp
      rw [hV]
      repeat (first | ((with_reducible apply RS.move); exact rfl; exact rfl; exact rfl) | ((with_reducible apply RS.assign); exact rfl; exact rfl; exact rfl) | ((with_reducible apply RS.cmpF); exact rfl; exact rfl; exact rfl; exact rfl; (simp only [cmpN]; omega)) | ((with_reducible apply RS.nil); exact mixed; kernel_rfl) | ((with_reducible apply W.seq)) | ((with_reducible apply W.reg); kernel_rfl) | ((with_reducible apply W.block)) | ((with_reducible apply W.exit)) | ((with_reducible apply W.condF); kernel_rfl; exact rfl) | ((with_reducible apply thenK_n)) | ((with_reducible apply thenK_e)) | ((with_reducible apply blockK_hit); exact rfl) | ((with_reducible apply roundN_e)))
      refine W.loopN (X := Nat) (fun k => [(1, .pointer (some ⟨fb, 0, none⟩)), (2, .pointer (some ⟨rb, 0, none⟩)), (4, .slice (some ⟨ob, 0, none⟩) f.blocks.length f.blocks.length), (20, .int .i64 (f.blocks.length : Int)), (21, .int .i64 (i : Int)), (6, .pointer (some ⟨bb, 0 + i * 9, none⟩)), (10, .slice AA acc.length cc), (13, .int .i64 (k : Int))])
        (fun k Bx => k ≤ acc.length / 2 ∧ Old B Bx ∧ (acc ≠ [] → Bx.m r = some ⟨⟨((revK acc k).map insVC).flatten⟩, 64⟩)) (fun k => acc.length / 2 - k)
        (fun B' a => ⟨0, ?_, ⟨Nat.zero_le _, O8.trans a.oldH, fun hn => a.up _ _ (hrow hn).2⟩⟩) ?_
      · (repeat' (first | exact trivial | exact rfl | apply And.intro)); done
      rintro k Bx πx sx ⟨hk2, Ox, hrx⟩
      by_cases hkl : k < acc.length / 2
      · have hne : acc ≠ [] := by intro e; rw [e] at hkl; exact absurd hkl (Nat.not_lt_zero _)
        rw [if_neg hne] at hAA
        subst hAA
        obtain ⟨xa, xb, hxa, hxb, hst⟩ := revK_step acc hkl
        have hRx := hrx hne
        have hRxn := sx.dom _ _ hRx
        have hRw2 : rwM ≤ r := Nat.le_trans sB.rw (hrow hne).1
        have hjm : (acc.length : Int) - 1 - (k : Int) = ((acc.length - 1 - k : Nat) : Int) := by omega
        have hxb2 : ((revK acc k).set k xb)[acc.length - 1 - k]? = some xb := by rw [List.getElem?_set, if_neg (by omega)]; exact hxb
        obtain ⟨hva, hla⟩ := insrow_take hxa (off := 0 + k * 12) (by omega)
        obtain ⟨hvb, hlb⟩ := insrow_take hxb (off := 0 + (acc.length - 1 - k) * 12) (by omega)
        have hlb2 := (insrow_take hxb2 (off := 0 + (acc.length - 1 - k) * 12) (by omega)).2
        rw [insVC_eq] at hva hvb
        have hpa : setL ((revK acc k).map insVC).flatten (0 + k * 12) (insC xb.1 (insA xb) (insK xb)) = (((revK acc k).set k xb).map insVC).flatten := by rw [← insVC_eq]; exact insrow_put hxa (by omega)
        have hpb : setL (((revK acc k).set k xb).map insVC).flatten (0 + (acc.length - 1 - k) * 12) (insC xa.1 (insA xa) (insK xa)) = ((revK acc (k + 1)).map insVC).flatten := by rw [hst, ← insVC_eq]; exact insrow_put hxb2 (by omega)
        have hRx2 : ∀ z, (Bx.set r z).m r = some z := fun z => by show (if r = r then _ else _) = _; rw [if_pos rfl]
        repeat (first | ((with_reducible apply RS.quo2); exact rfl; exact rfl; exact rfl; omega) | ((with_reducible apply RS.indexAddrS); exact rfl; exact rfl; exact rfl; exact rfl; exact rfl; omega) | ((with_reducible apply RS.loadNB); exact rfl; exact rfl; exact rfl; exact hRx; exact hRxn; exact hla; exact hva) | ((with_reducible apply RS.loadNB); exact rfl; exact rfl; exact rfl; exact hRx; exact hRxn; exact hlb; exact hvb) | ((with_reducible apply RS.storeB); exact rfl; exact rfl; exact rfl; exact hRx; exact hRxn; exact hRw2; exact hla; exact rfl; exact rfl; exact hpa) | ((with_reducible apply RS.storeB); exact rfl; exact rfl; exact rfl; exact hRx2 _; exact hRxn; exact hRw2; exact hlb2; exact rfl; exact rfl; exact hpb) | ((with_reducible apply RS.move); exact rfl; exact rfl; exact rfl) | ((with_reducible apply RS.assign); exact rfl; exact rfl; exact rfl) | ((with_reducible apply RS.cmpT); exact rfl; exact rfl; exact rfl; exact rfl; (simp only [cmpP]; omega)) | ((with_reducible apply RS.add1); exact rfl; exact rfl; exact rfl; exact rfl; omega) | ((with_reducible apply RS.sub1); exact rfl; exact rfl; exact rfl; exact rfl; omega) | ((with_reducible apply RS.subNat); exact rfl; exact rfl; exact rfl; exact rfl; omega) | ((with_reducible apply RS.lenSl); exact rfl; exact rfl; exact rfl) | ((with_reducible apply RS.nil); exact mixed; kernel_rfl) | ((with_reducible apply W.seq)) | ((with_reducible apply W.reg); kernel_rfl) | ((with_reducible apply W.block)) | ((with_reducible apply W.skip)) | ((with_reducible apply W.condT); kernel_rfl; exact rfl) | ((with_reducible apply thenK_n)) | ((with_reducible apply blockK_n)))
        have hrj : ∀ j, j = r → B.n ≤ j := fun j e => by rw [e]; exact (hrow hne).1
        refine roundN_n rfl fun B' a => ⟨k + 1, ?_, ⟨hkl, ((Ox.offS (OffS.set Bx r _) hrj).offS (OffS.set _ r _) hrj).trans a.oldH, fun _ => a.up _ _ (by show (if r = r then _ else _) = _; rw [if_pos rfl])⟩, by omega⟩
        (repeat' (first | exact trivial | exact rfl | apply And.intro)); done
      · have hkk : k = acc.length / 2 := by omega
        rw [hkk, revK_all] at hrx
        have hOx := Ox.up sB.dom _ _ hI.own.m
        have hOxn := sx.dom _ _ hOx
        repeat (first | ((with_reducible apply RS.quo2); exact rfl; exact rfl; exact rfl; omega) | ((with_reducible apply RS.storeB); exact rfl; exact rfl; exact rfl; exact hOx; exact hOxn; exact hI.own.rw; (have := (bv_block hbw (off := i * 9) rfl).2; omega); exact rfl; exact rfl; exact bv_put0 (b' := ⟨acc.reverse, r, b.term⟩) hbw (by omega) hV2 rfl) | ((with_reducible apply RS.nilCheck); exact rfl; exact rfl; exact rfl) | ((with_reducible apply RS.move); exact rfl; exact rfl; exact rfl) | ((with_reducible apply RS.cmpF); exact rfl; exact rfl; exact rfl; exact rfl; (simp only [cmpN]; omega)) | ((with_reducible apply RS.add1); exact rfl; exact rfl; exact rfl; exact rfl; omega) | ((with_reducible apply RS.lenSl); exact rfl; exact rfl; exact rfl) | ((with_reducible apply RS.fieldAddr); exact rfl; exact rfl; exact rfl) | ((with_reducible apply RS.nil); exact mixed; kernel_rfl) | ((with_reducible apply W.seq)) | ((with_reducible apply W.reg); kernel_rfl) | ((with_reducible apply W.exit)) | ((with_reducible apply W.condF); kernel_rfl; exact rfl) | ((with_reducible apply thenK_n)) | ((with_reducible apply thenK_e)) | ((with_reducible apply blockK_n)) | ((with_reducible apply blockK_hit); exact rfl) | ((with_reducible apply roundN_e)))
        have hI' := hI.next sB.dom s0.rw hb ho hT (fun y hy => hsub y (List.mem_reverse.1 hy)) Ox (r := r) fun hn => (have hn : acc ≠ [] := fun e => hn (by rw [e]; rfl); ⟨(hrow hn).1, hrx hn⟩)
        refine roundN_n rfl fun B' a => ⟨(i + 1, bw.set i ⟨acc.reverse, r, b.term⟩), ?_, ⟨hlt, hI'.up ?_ a.oldH⟩, ?_⟩
        · (repeat' (first | exact trivial | exact rfl | apply And.intro)); done
        · intro j y hy
          have hy : (if j = bb then _ else Bx.m j) = some y := hy
          split at hy
          · rename_i e; rw [e]; exact hOxn
          · exact sx.dom j y hy
        · show bv.length - (i + 1) < bv.length - i
          omega
    | succ k =>
      have e11 : ((k + 1 : Nat) : Int) - 1 = (k : Int) := by omega
      rw [e11]
      have hbne : b.ins ≠ [] := by intro e; rw [e] at hk; exact absurd hk (Nat.not_succ_le_zero _)
      have hbA : b.A = some ⟨b.r, 0, none⟩ := by unfold BV.A; rw [if_neg hbne]
      rw [hbA] at hcell0
      obtain ⟨x, hx⟩ : ∃ x, b.ins[k]? = some x := ⟨_, List.getElem?_eq_getElem (by omega)⟩
      have hX8 := O8.up sB.dom _ _ (hI.own.row b hbwm hbne).2
      have hX8n := sB8.dom _ _ hX8
      obtain ⟨hX8v, hX8l⟩ := insrow_take hx (off := 0 + k * 12) (by omega)
      rw [insVC_eq x] at hX8v
      have hgo' : onceGo (x.1 :: ((b.ins.take k).map (·.1)).reverse) s (acc.map (·.1)).reverse = (onceB b.s o).ins := by
        rw [← hgo]
        obtain ⟨q1, q2⟩ := List.getElem?_eq_some_iff.1 hx
        rw [List.take_succ_eq_append_getElem q1, q2, List.map_append, List.reverse_append]; rfl
      rw [onceGo] at hgo'
      have hxm : x.1 ∈ b.s.ins := List.mem_map_of_mem (List.mem_of_getElem? hx)
      obtain ⟨hx5, hx6, hx7⟩ := hb5 b.s hbm x.1 hxm
      have hargs := insA_sl (x := x) fun hn => (hI.own.arg b hbwm x (List.mem_of_getElem? hx) hn).2
      ((with_reducible apply W.seq); repeat (fail))
      ((with_reducible apply W.seq); repeat (first | ((with_reducible apply RS.move); exact rfl; exact rfl; exact rfl) | ((with_reducible apply RS.cmpT); exact rfl; exact rfl; exact rfl; exact rfl; (simp only [cmpP]; omega)) | ((with_reducible apply RS.nil); exact mixed; kernel_rfl) | ((with_reducible apply W.reg); kernel_rfl) | ((with_reducible apply W.skip)) | ((with_reducible apply W.condT); kernel_rfl; exact rfl) | ((with_reducible apply thenK_n))))
      ((with_reducible apply W.seq); repeat (first | ((with_reducible apply W.block))))
      ((with_reducible apply W.seq); repeat (first | ((with_reducible apply RS.indexAddrS); exact rfl; exact rfl; exact rfl; exact rfl; exact rfl; omega) | ((with_reducible apply RS.load1B); exact rfl; exact rfl; exact rfl; exact hO8; exact hO8n; exact hcell0) | ((with_reducible apply RS.loadNB); exact rfl; exact rfl; exact rfl; exact hX8; exact hX8n; exact hX8l; exact hX8v) | ((with_reducible apply RS.nilCheck); exact rfl; exact rfl; exact rfl) | ((with_reducible apply RS.move); exact rfl; exact rfl; exact rfl) | ((with_reducible apply RS.fieldAddr); exact rfl; exact rfl; exact rfl) | ((with_reducible apply RS.store); exact rfl; exact rfl; exact rfl; exact rfl; exact rfl; exact Nat.le_of_ble_eq_true rfl; exact rfl; exact rfl; exact rfl) | ((with_reducible apply RS.alloc); exact rfl; exact rfl) | ((with_reducible apply RS.nil); exact mixed; kernel_rfl) | ((with_reducible apply W.reg); kernel_rfl) | ((with_reducible apply thenK_n))))
      refine W.absorbX fun B9 π9 a9 => ?_
      have hq : B9.m (π8 0) = some ⟨⟨insC x.1 (insA x) (insK x)⟩, 64⟩ := a9.loc 0 (Nat.lt_succ_self 0)
      generalize π8 0 = q at *
      have hqn := a9.dom _ _ hq
      have O9 := O8.trans a9.oldH
      have hs9 := setAt_up hs8 a9.up
      have hrow9 : acc ≠ [] → B9.m r = some ⟨⟨(acc.map insVC).flatten⟩, 64⟩ := fun hn => a9.up _ _ (hrow hn).2
      repeat (first | ((with_reducible apply RS.callA); exact rfl; exact rfl; exact rfl; exact fun B' hB' => wanted_tf x.1 (insA x) (insK x) B') | ((with_reducible apply RS.loadNB); exact rfl; exact rfl; exact rfl; exact hq; exact hqn; exact Nat.le_of_ble_eq_true rfl; exact rfl) | ((with_reducible apply RS.move); exact rfl; exact rfl; exact rfl) | ((with_reducible apply RS.not); exact rfl; exact rfl; exact rfl) | ((with_reducible apply W.seq)) | ((with_reducible apply W.reg); kernel_rfl))
      repeat' ((first | (((with_reducible apply RS.splitD); exact rfl; exact rfl) <;> intro _) | ((((with_reducible apply RS.splitG); exact rfl; exact rfl) <;> intro _) <;> (fail_if_success (exact absurd ‹true = false› (by decide))) <;> (fail_if_success (exact absurd ‹false = true› (by decide)))) | (((with_reducible apply W.condD); exact rfl) <;> intro _) | ((((with_reducible apply W.cond); exact rfl) <;> intro _) <;> (fail_if_success (exact absurd ‹true = false› (by decide))) <;> (fail_if_success (exact absurd ‹false = true› (by decide))))) <;> repeat (first | ((with_reducible apply RS.callA); exact rfl; exact rfl; exact rfl; exact fun B' hB' => has_tfL s hsL A7 c7 _ hx6 hL1 B' (setAt_up hs9 hB'.up)) | ((with_reducible apply RS.loadNB); exact rfl; exact rfl; exact rfl; exact hq; exact hqn; exact Nat.le_of_ble_eq_true rfl; exact rfl) | ((with_reducible apply RS.load1B); exact rfl; exact rfl; exact rfl; exact hq; exact hqn; exact rfl) | ((with_reducible apply RS.callEx); exact rfl; exact rfl; exact rfl; intro B10 hB10; refine ⟨_, back_exL s hsL A7 c7 x.1 (insA x) (insK x) hL1 (by omega) hx6 hx7 B10 (setAt_up hs9 hB10.up) (hargs.mono (fun i y hy => hB10.up _ _ (O9.up sB.dom i y hy)) fun _ _ h => h), ?_⟩; rintro v H11 π11 ⟨hs11, ho11⟩ sH11 hle11; have hkp := fun {j : Nat} {y : Blk} (hy : B9.m j = some y) (he : y.elem ≠ 78) => offA_keep hB10.dom (setAt_up hs9 hB10.up) ho11 (hB10.up _ _ hy) he; have hq11 := hkp hq (by simp); have hq11n := sH11.dom _ _ hq11) | ((with_reducible apply RS.loadNB); exact rfl; exact rfl; exact rfl; exact hq11; exact hq11n; exact Nat.le_of_ble_eq_true rfl; exact rfl) | ((with_reducible apply RS.buildSlice); exact rfl; exact rfl; exact rfl; exact rfl; exact rfl; exact rfl; exact rfl; exact rfl) | ((with_reducible apply RS.pushRow (v := insC x.1 (insA x) (insK x)) (L := acc.map insVC)); exact rfl; exact rfl; exact rfl; exact rfl; exact rfl; exact rfl; exact fun Bq hBq => ⟨hBq.loc 0 (Nat.lt_succ_self 0), fun hn => (have hn : acc ≠ [] := fun e => hn (by rw [e]; rfl); ⟨Nat.le_trans sB.rw (hrow hn).1, hBq.up _ _ (hkp (hrow9 hn) (by simp))⟩)⟩; exact ins_wid acc; exact rfl; exact rfl; (rw [List.length_map]; omega); (rw [List.length_map]; omega); intro B12 hB12 r13 H13 π13 sH13 hr13 hm13 hle13 hoff13) | ((with_reducible apply RS.move); exact rfl; exact rfl; exact rfl) | ((with_reducible apply RS.assign); exact rfl; exact rfl; exact rfl) | ((with_reducible apply RS.pickT); exact rfl; exact rfl; exact rfl; exact rfl) | ((with_reducible apply RS.pickF); exact rfl; exact rfl; exact rfl; exact rfl) | ((with_reducible apply RS.cmpC); exact rfl; exact rfl; exact rfl; exact rfl; exact rfl) | ((with_reducible apply RS.binFit); exact rfl; exact rfl; exact rfl; exact rfl; exact rfl; omega) | ((with_reducible apply RS.bin); exact rfl; exact rfl; exact rfl; exact rfl; exact rfl) | ((with_reducible apply RS.not); exact rfl; exact rfl; exact rfl) | ((with_reducible apply RS.fieldAddr); exact rfl; exact rfl; exact rfl) | ((with_reducible apply RS.skip); exact rfl; exact rfl) | ((with_reducible apply RS.nil); exact mixed; kernel_rfl) | ((with_reducible apply W.seq)) | ((with_reducible apply W.reg); kernel_rfl) | ((with_reducible apply W.exit)) | ((with_reducible apply W.skip)) | ((with_reducible apply W.condT); kernel_rfl; exact rfl) | ((with_reducible apply W.condF); kernel_rfl; exact rfl) | ((with_reducible apply thenK_n)) | ((with_reducible apply thenK_e)) | ((with_reducible apply blockK_n)) | ((with_reducible apply blockK_hit); exact rfl)))
      · rw [if_pos (by rw [‹(!wantedS x.1) = true›, decide_eq_true ‹x.1.dst < 0›]; rfl)] at hgo'
        refine roundN_n rfl fun B' a => ⟨(k, s, acc, r), ?_, ⟨Nat.le_of_succ_le hk, O9.trans a.oldH, setAt_up hs9 a.up, hsL, hgo', hsub, (show acc.length + k ≤ b.ins.length by omega), fun hn => ⟨(hrow hn).1, a.up _ _ (hrow9 hn)⟩⟩, Nat.lt_succ_self _⟩
        (repeat' (first | exact trivial | exact rfl | apply And.intro)); done
      · rw [if_pos (by rw [‹(!wantedS x.1) = true›, ‹(!hasS s x.1.dst) = true›]; simp)] at hgo'
        refine roundN_n rfl fun B' a => ⟨(k, s, acc, r), ?_, ⟨Nat.le_of_succ_le hk, O9.trans a.oldH, setAt_up hs9 a.up, hsL, hgo', hsub, (show acc.length + k ≤ b.ins.length by omega), fun hn => ⟨(hrow hn).1, a.up _ _ (hrow9 hn)⟩⟩, Nat.lt_succ_self _⟩
        (repeat' (first | exact trivial | exact rfl | apply And.intro)); done
      · rw [if_neg (by rw [‹(!wantedS x.1) = true›, decide_eq_false ‹¬ x.1.dst < 0›, ‹(!hasS s x.1.dst) = false›]; decide)] at hgo'
        rw [if_pos ⟨‹x.1.op = 2›, ‹x.1.a.reg = x.1.dst›⟩] at hgo'
        refine roundN_n rfl fun B' a => ⟨(k, s, acc, r), ?_, ⟨Nat.le_of_succ_le hk, O9.trans a.oldH, setAt_up hs9 a.up, hsL, hgo', hsub, (show acc.length + k ≤ b.ins.length by omega), fun hn => ⟨(hrow hn).1, a.up _ _ (hrow9 hn)⟩⟩, Nat.lt_succ_self _⟩
        (repeat' (first | exact trivial | exact rfl | apply And.intro)); done
      · rw [if_neg (by rw [‹(!wantedS x.1) = true›, decide_eq_false ‹¬ x.1.dst < 0›, ‹(!hasS s x.1.dst) = false›]; decide)] at hgo'
        rw [if_neg (fun e => absurd e.2 ‹¬ x.1.a.reg = x.1.dst›)] at hgo'
        obtain ⟨O13, hs13, O12⟩ := once_push O9 hB10.oldH ho11 hA7 hB12.oldH hs11 hB12.dom sH11.dom (fun hn => hB12.up _ _ (hkp (hrow9 hn) (by simp))) (fun hn => (hrow hn).1) hle13 hoff13
        have e1 : (acc ++ [x]).map insVC = acc.map insVC ++ [insC x.1 (insA x) (insK x)] := by rw [List.map_append, ← insVC_eq]; rfl
        refine roundN_n rfl fun B' a => ⟨(k, backS s x.1, acc ++ [x], r13), ?_, ⟨Nat.le_of_succ_le hk, O13.trans a.oldH, setAt_up hs13 a.up, by rw [← hsL]; exact backS_len _ _, by rw [List.map_append, List.reverse_append]; exact hgo', ?_, (show (acc ++ [x]).length + k ≤ b.ins.length by rw [List.length_append, List.length_singleton]; omega), fun hn => ⟨Nat.le_trans O12 hr13, a.up _ _ (by rw [e1]; exact hm13)⟩⟩, Nat.lt_succ_self _⟩
        · dsimp only
          rw [e1]
          (repeat' (first | exact trivial | exact rfl | apply And.intro)); done
        · intro y hy
          rcases List.mem_append.1 hy with e | e
          · exact hsub y e
          · simp only [List.mem_singleton] at e
            subst e
            exact List.mem_of_getElem? hx
      · rw [if_neg (by rw [‹(!wantedS x.1) = true›, decide_eq_false ‹¬ x.1.dst < 0›, ‹(!hasS s x.1.dst) = false›]; decide)] at hgo'
        rw [if_neg (fun e => absurd e.1 ‹¬ x.1.op = 2›)] at hgo'
        obtain ⟨O13, hs13, O12⟩ := once_push O9 hB10.oldH ho11 hA7 hB12.oldH hs11 hB12.dom sH11.dom (fun hn => hB12.up _ _ (hkp (hrow9 hn) (by simp))) (fun hn => (hrow hn).1) hle13 hoff13
        have e1 : (acc ++ [x]).map insVC = acc.map insVC ++ [insC x.1 (insA x) (insK x)] := by rw [List.map_append, ← insVC_eq]; rfl
        refine roundN_n rfl fun B' a => ⟨(k, backS s x.1, acc ++ [x], r13), ?_, ⟨Nat.le_of_succ_le hk, O13.trans a.oldH, setAt_up hs13 a.up, by rw [← hsL]; exact backS_len _ _, by rw [List.map_append, List.reverse_append]; exact hgo', ?_, (show (acc ++ [x]).length + k ≤ b.ins.length by rw [List.length_append, List.length_singleton]; omega), fun hn => ⟨Nat.le_trans O12 hr13, a.up _ _ (by rw [e1]; exact hm13)⟩⟩, Nat.lt_succ_self _⟩
        · dsimp only
          rw [e1]
          (repeat' (first | exact trivial | exact rfl | apply And.intro)); done
        · intro y hy
          rcases List.mem_append.1 hy with e | e
          · exact hsub y e
          · simp only [List.mem_singleton] at e
            subst e
            exact List.mem_of_getElem? hx
      · rw [if_neg (by rw [‹(!wantedS x.1) = false›]; simp)] at hgo'
        rw [if_pos ⟨‹x.1.op = 2›, ‹x.1.a.reg = x.1.dst›⟩] at hgo'
        refine roundN_n rfl fun B' a => ⟨(k, s, acc, r), ?_, ⟨Nat.le_of_succ_le hk, O9.trans a.oldH, setAt_up hs9 a.up, hsL, hgo', hsub, (show acc.length + k ≤ b.ins.length by omega), fun hn => ⟨(hrow hn).1, a.up _ _ (hrow9 hn)⟩⟩, Nat.lt_succ_self _⟩
        (repeat' (first | exact trivial | exact rfl | apply And.intro)); done
      · rw [if_neg (by rw [‹(!wantedS x.1) = false›]; simp)] at hgo'
        rw [if_neg (fun e => absurd e.2 ‹¬ x.1.a.reg = x.1.dst›)] at hgo'
        obtain ⟨O13, hs13, O12⟩ := once_push O9 hB10.oldH ho11 hA7 hB12.oldH hs11 hB12.dom sH11.dom (fun hn => hB12.up _ _ (hkp (hrow9 hn) (by simp))) (fun hn => (hrow hn).1) hle13 hoff13
        have e1 : (acc ++ [x]).map insVC = acc.map insVC ++ [insC x.1 (insA x) (insK x)] := by rw [List.map_append, ← insVC_eq]; rfl
        refine roundN_n rfl fun B' a => ⟨(k, backS s x.1, acc ++ [x], r13), ?_, ⟨Nat.le_of_succ_le hk, O13.trans a.oldH, setAt_up hs13 a.up, by rw [← hsL]; exact backS_len _ _, by rw [List.map_append, List.reverse_append]; exact hgo', ?_, (show (acc ++ [x]).length + k ≤ b.ins.length by rw [List.length_append, List.length_singleton]; omega), fun hn => ⟨Nat.le_trans O12 hr13, a.up _ _ (by rw [e1]; exact hm13)⟩⟩, Nat.lt_succ_self _⟩
        · dsimp only
          rw [e1]
          (repeat' (first | exact trivial | exact rfl | apply And.intro)); done
        · intro y hy
          rcases List.mem_append.1 hy with e | e
          · exact hsub y e
          · simp only [List.mem_singleton] at e
            subst e
            exact List.mem_of_getElem? hx
      · rw [if_neg (by rw [‹(!wantedS x.1) = false›]; simp)] at hgo'
        rw [if_neg (fun e => absurd e.1 ‹¬ x.1.op = 2›)] at hgo'
        obtain ⟨O13, hs13, O12⟩ := once_push O9 hB10.oldH ho11 hA7 hB12.oldH hs11 hB12.dom sH11.dom (fun hn => hB12.up _ _ (hkp (hrow9 hn) (by simp))) (fun hn => (hrow hn).1) hle13 hoff13
        have e1 : (acc ++ [x]).map insVC = acc.map insVC ++ [insC x.1 (insA x) (insK x)] := by rw [List.map_append, ← insVC_eq]; rfl
        refine roundN_n rfl fun B' a => ⟨(k, backS s x.1, acc ++ [x], r13), ?_, ⟨Nat.le_of_succ_le hk, O13.trans a.oldH, setAt_up hs13 a.up, by rw [← hsL]; exact backS_len _ _, by rw [List.map_append, List.reverse_append]; exact hgo', ?_, (show (acc ++ [x]).length + k ≤ b.ins.length by rw [List.length_append, List.length_singleton]; omega), fun hn => ⟨Nat.le_trans O12 hr13, a.up _ _ (by rw [e1]; exact hm13)⟩⟩, Nat.lt_succ_self _⟩
        · dsimp only
          rw [e1]
          (repeat' (first | exact trivial | exact rfl | apply And.intro)); done
        · intro y hy
          rcases List.mem_append.1 hy with e | e
          · exact hsub y e
          · simp only [List.mem_singleton] at e
            subst e
            exact List.mem_of_getElem? hx
  · have hii : i = bv.length := by omega
    have hRb := hI.rm
    have hRbn := sB.dom _ _ hRb
    have hbl := hI.len
    have hsl : sL bw = onceL (sL bv) outs := by
      have := hI.pl
      rw [hii, List.take_of_length_le (by rw [sL_length]; omega), List.take_of_length_le (by rw [onceL_len, sL_length]; omega)] at this
      exact this
    repeat (first | ((with_reducible apply RS.loadNB); exact rfl; exact rfl; exact rfl; exact hF; exact hFn; exact Nat.le_of_ble_eq_true rfl; exact rfl) | ((with_reducible apply RS.storeB); exact rfl; exact rfl; exact rfl; exact hRb; exact hRbn; exact hRw; exact Nat.le_of_ble_eq_true rfl; exact rfl; exact rfl; exact rfl) | ((with_reducible apply RS.cmpF); exact rfl; exact rfl; exact rfl; exact rfl; (simp only [cmpN]; omega)) | ((with_reducible apply RS.nil); exact mixed; kernel_rfl) | ((with_reducible apply W.seq)) | ((with_reducible apply W.reg); kernel_rfl) | ((with_reducible apply W.exit)) | ((with_reducible apply W.ret)) | ((with_reducible apply W.condF); kernel_rfl; exact rfl) | ((with_reducible apply thenK_n)) | ((with_reducible apply thenK_e)) | ((with_reducible apply blockK_hit); exact rfl) | ((with_reducible apply roundN_e)))
    refine endsK_ret _ (.cons (.baseN (vs := funcC f A1 c1 A2 c2 (some ⟨bb, 0, none⟩) c3) rfl (by show (if rb = rb then _ else _) = _; rw [if_pos rfl]) (Nat.le_of_ble_eq_true rfl) rfl) .nil) fun B' a => ⟨bw, ?_, ?_, ?_, ?_, ?_, hI.sub⟩
    · have e : f.blocks.length = (sL bw).length := by rw [sL_length, hbl, hfl']
      show Value.agg ⟨funcC f A1 c1 A2 c2 (some ⟨bb, 0, none⟩) c3⟩ = _
      unfold funcC
      rw [e]
    · refine hI.own.up35 fun j x hx he => a.up _ _ ?_
      show (if j = rb then _ else B.m j) = _
      rw [if_neg (ne_of_elem hx hRb he)]
      exact hx
    · rw [hsl]; exact honce
    · exact (hI.off.trans (OffS.set B rb _) fun j hj e => absurd hrb (by omega)).same a.oldH.off
    · intro x hx hn
      exact hI.new x (by rw [hii, List.take_of_length_le (by omega)]; exact hx) hn
end Go.Proofs.Ytjhloakacicdiaa
namespace Go.Proofs.Ytjhloakacicdiaa
open Go.AH
attribute [local irreducible] W RS
theorem onceGo_sub : ∀ (l : List InsS) (s : SetS) (acc : List InsS), (onceGo l s acc).Sublist (l.reverse ++ acc)
  | [], _, acc => List.Sublist.refl _
  | x :: r, s, acc => by
    have h1 := onceGo_sub r s acc
    have h2 := onceGo_sub r (backS s x) (x :: acc)
    have e : (x :: r).reverse ++ acc = r.reverse ++ (x :: acc) := by simp
    have h3 : (onceGo r s acc).Sublist (r.reverse ++ (x :: acc)) := h1.trans (List.Sublist.append (List.Sublist.refl _) (List.sublist_cons_self x acc))
    rw [onceGo, e]
    split
    · exact h3
    · split
      · exact h3
      · exact h2
theorem onceB_sub (b : BlockS) (o : SetS) : (onceB b o).ins.Sublist b.ins := by
  have := onceGo_sub b.ins.reverse (useS o (treadsS b.term)) []
  rw [List.reverse_reverse, List.append_nil] at this
  exact this
def LessL (bl bl' : List BlockS) : Prop := bl'.length = bl.length ∧ ∀ (i : Nat) (b b' : BlockS), bl[i]? = some b → bl'[i]? = some b' → b'.term = b.term ∧ b'.ins.Sublist b.ins
theorem LessL.refl (bl : List BlockS) : LessL bl bl := ⟨rfl, fun i b b' h1 h2 => by rw [h1] at h2; injection h2 with h2; subst h2; exact ⟨rfl, List.Sublist.refl _⟩⟩
theorem LessL.trans {a b c : List BlockS} (h1 : LessL a b) (h2 : LessL b c) : LessL a c := by
  refine ⟨by rw [h2.1, h1.1], fun i x z hx hz => ?_⟩
  have hi := (List.getElem?_eq_some_iff.1 hx).1
  obtain ⟨y, hy⟩ : ∃ y, b[i]? = some y := ⟨_, List.getElem?_eq_getElem (by rw [h1.1]; exact hi)⟩
  obtain ⟨g1, g2⟩ := h1.2 i x y hx hy
  obtain ⟨g3, g4⟩ := h2.2 i y z hy hz
  exact ⟨by rw [g3, g1], g4.trans g2⟩
theorem onceL_less : ∀ (bl : List BlockS) (os : List SetS), LessL bl (onceL bl os)
  | [], [] => .refl _
  | [], _ :: _ => .refl _
  | _ :: _, [] => .refl _
  | b :: bl, o :: os => by
    have ih := onceL_less bl os
    rw [onceL]
    refine ⟨by rw [List.length_cons, List.length_cons, ih.1], fun i x y hx hy => ?_⟩
    cases i with
    | zero =>
      simp only [List.getElem?_cons_zero, Option.some.injEq] at hx hy
      subst hx; subst hy
      exact ⟨rfl, onceB_sub _ _⟩
    | succ i => exact ih.2 i x y (by simpa using hx) (by simpa using hy)
theorem OnceS.less {regs : Int} {bl bl' : List BlockS} (h : OnceS regs bl bl') : LessL bl bl' := by
  cases h with
  | mk h => exact onceL_less _ _
theorem LessL.size {bl bl' : List BlockS} (h : LessL bl bl') : sizeS bl' ≤ sizeS bl := by
  induction bl generalizing bl' with
  | nil =>
    have := List.length_eq_zero_iff.1 h.1
    subst this
    exact Nat.le_refl _
  | cons b bl ih =>
    cases bl' with
    | nil => simp [sizeS]
    | cons b' bl' =>
      have h1 := (h.2 0 b b' rfl rfl).2.length_le
      have h2 := ih ⟨by have := h.1; simpa using this, fun i x y hx hy => h.2 (i + 1) x y (by simpa using hx) (by simpa using hy)⟩
      unfold sizeS at h2 ⊢
      simp only [List.map_cons, List.sum_cons]
      omega
theorem LessL.mem {bl bl' : List BlockS} (h : LessL bl bl') {b' : BlockS} (hb : b' ∈ bl') : ∃ b ∈ bl, b'.term = b.term ∧ b'.ins.Sublist b.ins := by
  obtain ⟨i, hi⟩ := List.mem_iff_getElem?.1 hb
  have hl := (List.getElem?_eq_some_iff.1 hi).1
  obtain ⟨b, hb⟩ : ∃ b, bl[i]? = some b := ⟨_, List.getElem?_eq_getElem (by rw [← h.1]; exact hl)⟩
  exact ⟨b, List.mem_of_getElem? hb, h.2 i b b' hb hi⟩
theorem LessL.tgt {bl bl' : List BlockS} (h : LessL bl bl') (ht : tgtOK bl) : tgtOK bl' := by
  intro b hb k hk
  obtain ⟨b0, h1, h2, _⟩ := h.mem hb
  rw [h2] at hk
  rw [h.1]
  exact ht b0 h1 k hk
theorem sizeS_eq (bv : List BV) : sizeS (sL bv) = totB bv := by
  unfold sizeS totB sL
  rw [List.map_map]
  congr 1
  apply List.map_congr_left
  intro b _
  simp [BV.s]
structure OkL (regs : Int) (bl : List BlockS) : Prop where
  pos : 0 < bl.length
  len : bl.length ≤ 100000
  r0 : 0 ≤ regs
  r1 : regs ≤ 1000000
  tgt : tgtOK bl
  size : sizeS bl ≤ 1000000
  fit : ∀ b ∈ bl, ∀ x ∈ b.ins, x.args.length ≤ 1000000 ∧ fitI x.dst ∧ ∀ a ∈ readsS x, fitI a.reg
  tfit : ∀ b ∈ bl, ∀ a ∈ treadsS b.term, fitI a.reg
theorem sizeS_le {bl : List BlockS} {b : BlockS} (h : b ∈ bl) : b.ins.length ≤ sizeS bl := by
  induction bl with
  | nil => cases h
  | cons c bl ih =>
    unfold sizeS at ih ⊢
    simp only [List.map_cons, List.sum_cons]
    rcases List.mem_cons.1 h with e | e
    · subst e; omega
    · have := ih e; omega
theorem OkL.less {regs : Int} {bl bl' : List BlockS} (o : OkL regs bl) (h : LessL bl bl') : OkL regs bl' :=
  ⟨by rw [h.1]; exact o.pos, by rw [h.1]; exact o.len, o.r0, o.r1, h.tgt o.tgt, Nat.le_trans h.size o.size, fun b hb x hx => (by obtain ⟨b0, h1, _, h3⟩ := h.mem hb; exact o.fit b0 h1 x (h3.subset hx)), fun b hb => (by obtain ⟨b0, h1, h2, _⟩ := h.mem hb; rw [h2]; exact o.tfit b0 h1)⟩
theorem once_exO (h : Hp) (bb : Nat) (bv : List BV) (f : FuncS) (A1 : Option Addr) (c1 : Nat) (A2 : Option Addr) (c2 c3 : Nat) (hob : OwnB h bb bv) (hok : OkL f.regs (sL bv)) :
    EX Try.prog 68 [.agg ⟨funcC { f with blocks := sL bv } A1 c1 A2 c2 (some ⟨bb, 0, none⟩) c3⟩] h (fun v h' => ∃ bv', v = .agg ⟨funcC { f with blocks := sL bv' } A1 c1 A2 c2 (some ⟨bb, 0, none⟩) c3⟩ ∧ OwnB h' bb bv' ∧ OnceS f.regs (sL bv) (sL bv') ∧ OffS (fun j => j = bb) h h' ∧ (∀ b ∈ bv', b.ins ≠ [] → h.n ≤ b.r) ∧ ∀ b' ∈ bv', ∀ x ∈ b'.ins, ∃ b ∈ bv, x ∈ b.ins) :=
  once_ex h bb bv { f with blocks := sL bv } A1 c1 A2 c2 c3 rfl (by have := hok.pos; rwa [sL_length] at this) (by have := hok.len; rwa [sL_length] at this) hob hok.r0 hok.r1 hok.tgt (fun b hb => Nat.le_trans (sizeS_le hb) hok.size) hok.fit hok.tfit
set_option maxRecDepth 100000 in
theorem code_ex (h : Hp) (bb : Nat) (bv : List BV) (f : FuncS) (A1 : Option Addr) (c1 : Nat) (A2 : Option Addr) (c2 c3 : Nat) (hob : OwnB h bb bv) (hok : OkL f.regs (sL bv)) :
    EX Try.prog 55 [.agg ⟨funcC { f with blocks := sL bv } A1 c1 A2 c2 (some ⟨bb, 0, none⟩) c3⟩] h (fun v h' => ∃ bv', v = .agg ⟨funcC { f with blocks := sL bv' } A1 c1 A2 c2 (some ⟨bb, 0, none⟩) c3⟩ ∧ OwnB h' bb bv' ∧ CodeS f.regs (sL bv) (sL bv') ∧ OffS (fun j => j = bb) h h' ∧ (∀ b ∈ bv', b.ins ≠ [] → h.n ≤ b.r) ∧ ∀ b' ∈ bv', ∀ x ∈ b'.ins, ∃ b ∈ bv, x ∈ b.ins) := by
  refine EX.intro (fn := Try.f55) (c := (Try.f55.body.getD .skip)) Try.func55 (by kernel_rfl) Try.ntmps55 (by kernel_rfl) fun π s0 => ?_
  conv => arg 2; whnf
  have hd := s0.dom
  ((with_reducible apply W.seq); repeat (first | ((with_reducible apply RS.alloc); exact rfl; exact rfl) | ((with_reducible apply RS.box); exact rfl; exact rfl; exact rfl) | ((with_reducible apply RS.nil); exact mixed; kernel_rfl) | ((with_reducible apply W.reg); kernel_rfl) | ((with_reducible apply W.block)) | ((with_reducible apply thenK_n))))
  refine W.absorbX fun B0 π0 a0 => ?_
  have hF0 : B0.m (π 0) = some ⟨⟨funcC { f with blocks := sL bv } A1 c1 A2 c2 (some ⟨bb, 0, none⟩) c3⟩, 35⟩ := a0.loc 0 (Nat.lt_of_lt_of_le Nat.zero_lt_one (Nat.le_succ 1))
  have hfb : h.n ≤ π 0 := a0.lo 0 (Nat.lt_of_lt_of_le Nat.zero_lt_one (Nat.le_succ 1))
  have hrb : h.n ≤ π 1 := a0.lo 1 (Nat.lt_succ_self 1)
  have hRb0 : B0.m (π 1) = some ⟨⟨cellsV (.agg ⟨funcC ⟨⟨#[]⟩, 0, 0, 0, [], []⟩ none 0 none 0 none 0⟩)⟩, 35⟩ := a0.loc 1 (Nat.lt_succ_self 1)
  have hfr : π 0 ≠ π 1 := fun e => absurd (a0.inj 0 1 (Nat.lt_of_lt_of_le Nat.zero_lt_one (Nat.le_succ 1)) (Nat.lt_succ_self 1) e) (by decide)
  generalize π 0 = fb at *
  generalize π 1 = rb at *
  have hRw : rwM ≤ rb := Nat.le_trans s0.rw hrb
  have hFw : rwM ≤ fb := Nat.le_trans s0.rw hfb
  have hbbn : bb < h.n := hd _ _ hob.m
  have hfbb : ¬ fb = bb := by omega
  have hrbb : ¬ rb = bb := by omega
  repeat (fail)
  refine W.loopN (X := List BV) (fun _ => [(1, .pointer (some ⟨fb, 0, none⟩)), (2, .pointer (some ⟨rb, 0, none⟩))])
    (fun bw B => OwnB B bb bw ∧ B.m fb = some ⟨⟨funcC { f with blocks := sL bw } A1 c1 A2 c2 (some ⟨bb, 0, none⟩) c3⟩, 35⟩ ∧ B.m rb = some ⟨⟨cellsV (.agg ⟨funcC ⟨⟨#[]⟩, 0, 0, 0, [], []⟩ none 0 none 0 none 0⟩)⟩, 35⟩ ∧ OffS (fun j => j = bb) h B ∧ OkL f.regs (sL bw) ∧ (∀ bl', CodeS f.regs (sL bw) bl' → CodeS f.regs (sL bv) bl') ∧ ∀ b' ∈ bw, ∀ x ∈ b'.ins, ∃ b ∈ bv, x ∈ b.ins) (fun bw => sizeS (sL bw))
    (fun B' a => ⟨bv, ?_, ⟨hob.up (fun i x hx => a.up _ _ (a0.up _ _ hx)), a.up _ _ hF0, a.up _ _ hRb0, (a0.oldH.trans a.oldH).off, hok, fun _ h => h, fun b hb x hx => ⟨b, hb, hx⟩⟩⟩) ?_
  · (repeat' (first | exact trivial | exact rfl | apply And.intro)); done
  rintro bw B π2 sB ⟨hown, hF, hRb, hoff, hokw, hcode, hsub⟩
  have hFn := sB.dom _ _ hF
  have hfat : FAt B fb f.regs (some ⟨bb, 0, none⟩) c3 (sL bw) := FunB.at (f := { f with blocks := sL bw }) ⟨hF, hFw⟩ hown (by rw [sL_length])
  with_reducible apply W.block
  ((with_reducible apply W.seq); repeat (first | ((with_reducible apply RS.callA); exact rfl; exact rfl; exact rfl; exact fun B' hB' => size_tf fb f.regs (some ⟨bb, 0, none⟩) c3 (sL bw) hokw.len hokw.size B' (hfat.up hB'.up)) | ((with_reducible apply RS.assign); exact rfl; exact rfl; exact rfl) | ((with_reducible apply RS.nil); exact mixed; kernel_rfl) | ((with_reducible apply W.reg); kernel_rfl) | ((with_reducible apply thenK_n))))
  ((with_reducible apply W.seq); repeat (first | ((with_reducible apply RS.loadNB); exact rfl; exact rfl; exact rfl; exact hF; exact hFn; exact Nat.le_of_ble_eq_true rfl; exact rfl) | ((with_reducible apply RS.callEx); exact rfl; exact rfl; exact rfl; intro B2 hB2; refine ⟨_, once_exO B2 bb bw f A1 c1 A2 c2 c3 (hown.up hB2.up) hokw, ?_⟩; rintro v H3 π3 ⟨bv', rfl, hown3, honce3, hoff3, hnew3, hsub3⟩ sH3 hle3; have hF3 := (hoff3.2 fb (hB2.dom _ _ (hB2.up _ _ hF)) hfbb).trans (hB2.up _ _ hF); have hF3n := sH3.dom _ _ hF3) | ((with_reducible apply RS.storeB); exact rfl; exact rfl; exact rfl; exact hF3; exact hF3n; exact hFw; exact Nat.le_of_ble_eq_true rfl; exact rfl; exact rfl; exact (show setL (funcC { f with blocks := sL bw } A1 c1 A2 c2 (some ⟨bb, 0, none⟩) c3) 0 (funcC { f with blocks := sL bv' } A1 c1 A2 c2 (some ⟨bb, 0, none⟩) c3) = funcC { f with blocks := sL bv' } A1 c1 A2 c2 (some ⟨bb, 0, none⟩) c3 from rfl)) | ((with_reducible apply RS.nil); exact mixed; kernel_rfl) | ((with_reducible apply W.reg); kernel_rfl) | ((with_reducible apply thenK_n))))
  have hless := honce3.less
  have hokn := hokw.less hless
  have hsz := hless.size
  have hoff4 : OffS (fun j => j = bb) h H3 := (hoff.same hB2.oldH.off).trans hoff3 fun j _ e => e
  have hsub4 : ∀ b' ∈ bv', ∀ x ∈ b'.ins, ∃ b ∈ bv, x ∈ b.ins := fun b' hb' x hx => (by obtain ⟨b1, h1, h2⟩ := hsub3 b' hb' x hx; exact hsub b1 h1 x h2)
  obtain ⟨X, hX⟩ : ∃ X : Blk, X = ⟨⟨funcC { f with blocks := sL bv' } A1 c1 A2 c2 (some ⟨bb, 0, none⟩) c3⟩, 35⟩ := ⟨_, rfl⟩
  have hF4 : (H3.set fb X).m fb = some ⟨⟨funcC { f with blocks := sL bv' } A1 c1 A2 c2 (some ⟨bb, 0, none⟩) c3⟩, 35⟩ := by show (if fb = fb then _ else _) = _; rw [if_pos rfl, hX]
  have hown4 : OwnB (H3.set fb X) bb bv' := hown3.up35 fun j x hx he => (by show (if j = fb then _ else H3.m j) = _; rw [if_neg (ne_of_elem hx hF3 he)]; exact hx)
  have hRb3 : H3.m rb = some ⟨⟨cellsV (.agg ⟨funcC ⟨⟨#[]⟩, 0, 0, 0, [], []⟩ none 0 none 0 none 0⟩)⟩, 35⟩ := (hoff3.2 rb (hB2.dom _ _ (hB2.up _ _ hRb)) hrbb).trans (hB2.up _ _ hRb)
  have hRb4 : (H3.set fb X).m rb = some ⟨⟨cellsV (.agg ⟨funcC ⟨⟨#[]⟩, 0, 0, 0, [], []⟩ none 0 none 0 none 0⟩)⟩, 35⟩ := by show (if rb = fb then _ else H3.m rb) = _; rw [if_neg (fun e => hfr e.symm)]; exact hRb3
  have hRb4n : rb < H3.n := sH3.dom _ _ hRb3
  have hoff5 : OffS (fun j => j = bb) h (H3.set fb X) := hoff4.trans (OffS.set H3 fb X) fun j hj e => absurd hfb (by omega)
  have hfat4 : FAt (H3.set fb X) fb f.regs (some ⟨bb, 0, none⟩) c3 (sL bv') := FunB.at (f := { f with blocks := sL bv' }) ⟨hF4, hFw⟩ hown4 (by rw [sL_length])
  have hd4 : ∀ i x, (H3.set fb X).m i = some x → i < (H3.set fb X).n := by
    intro i x hx
    have hx : (if i = fb then _ else H3.m i) = some x := hx
    split at hx
    · rename_i e; rw [e]; exact hF3n
    · exact sH3.dom i x hx
  rw [← hX]
  by_cases hq : sizeS (sL bv') = sizeS (sL bw)
  · repeat (first | ((with_reducible apply RS.callA); exact rfl; exact rfl; exact rfl; exact fun B' hB' => size_tf fb f.regs (some ⟨bb, 0, none⟩) c3 (sL bv') hokn.len hokn.size B' (hfat4.up hB'.up)) | ((with_reducible apply RS.loadNB); exact rfl; exact rfl; exact rfl; exact hF4; exact hF3n; exact Nat.le_of_ble_eq_true rfl; exact rfl) | ((with_reducible apply RS.storeB); exact rfl; exact rfl; exact rfl; exact hRb4; exact hRb4n; exact hRw; exact Nat.le_of_ble_eq_true rfl; exact rfl; exact rfl; exact rfl) | ((with_reducible apply RS.move); exact rfl; exact rfl; exact rfl) | ((with_reducible apply RS.cmpT); exact rfl; exact rfl; exact rfl; exact rfl; (simp only [cmpP]; omega)) | ((with_reducible apply RS.nil); exact mixed; kernel_rfl) | ((with_reducible apply W.seq)) | ((with_reducible apply W.reg); kernel_rfl) | ((with_reducible apply W.ret)) | ((with_reducible apply W.condT); kernel_rfl; exact rfl) | ((with_reducible apply thenK_n)) | ((with_reducible apply blockK_r)) | ((with_reducible apply roundN_r)))
    refine endsK_ret _ (.cons (.baseN (vs := funcC { f with blocks := sL bv' } A1 c1 A2 c2 (some ⟨bb, 0, none⟩) c3) rfl (by show (if rb = rb then _ else _) = _; rw [if_pos rfl]) (Nat.le_of_ble_eq_true rfl) rfl) .nil) fun B' a => ⟨bv', rfl, ?_, hcode _ (.stop honce3 hq), (hoff5.trans (OffS.set _ rb _) fun j hj e => absurd hrb (by omega)).same a.oldH.off, ?_, hsub4⟩
    · refine hown4.up35 fun j x hx he => a.up _ _ ?_
      show (if j = rb then _ else (H3.set fb X).m j) = _
      rw [if_neg (ne_of_elem hx hRb4 he)]
      exact hx
    · exact fun b hb hn => Nat.le_trans (Nat.le_trans hoff.1 hB2.le) (hnew3 b hb hn)
  · repeat (first | ((with_reducible apply RS.callA); exact rfl; exact rfl; exact rfl; exact fun B' hB' => size_tf fb f.regs (some ⟨bb, 0, none⟩) c3 (sL bv') hokn.len hokn.size B' (hfat4.up hB'.up)) | ((with_reducible apply RS.move); exact rfl; exact rfl; exact rfl) | ((with_reducible apply RS.cmpF); exact rfl; exact rfl; exact rfl; exact rfl; (simp only [cmpN]; omega)) | ((with_reducible apply RS.nil); exact mixed; kernel_rfl) | ((with_reducible apply W.seq)) | ((with_reducible apply W.reg); kernel_rfl) | ((with_reducible apply W.skip)) | ((with_reducible apply W.condF); kernel_rfl; exact rfl) | ((with_reducible apply thenK_n)) | ((with_reducible apply blockK_n)))
    refine roundN_n rfl fun B' a => ⟨bv', ?_, ⟨hown4.up a.up, a.up _ _ hF4, a.up _ _ hRb4, hoff5.same a.oldH.off, hokn, fun bl' h1 => hcode _ (.go honce3 hq h1), hsub4⟩, by omega⟩
    (repeat' (first | exact trivial | exact rfl | apply And.intro)); done
end Go.Proofs.Ytjhloakacicdiaa
namespace Go.Proofs.Ytjhloakacicdiaa
open Go.AH
attribute [local irreducible] W RS
theorem CodeS.less {regs : Int} {bl bl' : List BlockS} (h : CodeS regs bl bl') : LessL bl bl' := by
  induction h with
  | stop h _ => exact h.less
  | go h _ _ ih => exact h.less.trans ih
theorem func_off {B1 H2 B3 H4 : Hp} {bb : Nat} {bm : List BV} (o2 : OffS (fun j => j = bb) B1 H2) (o3 : Old H2 B3) (o4 : OffS (Foot bb bm) B3 H4) (hn : ∀ b ∈ bm, b.ins ≠ [] → B1.n ≤ b.r) : OffS (fun j => j = bb) B1 H4 :=
  (o2.trans (T := fun j => j = bb) o3.off fun j _ e => e).trans o4 fun j hj e => by
    rcases e with e | ⟨b, hb, hbn, hbr⟩
    · exact e
    · have := hn b hb hbn; omega
set_option maxRecDepth 100000 in
theorem func_ex (h : Hp) (bb : Nat) (bv : List BV) (f : FuncS) (A1 : Option Addr) (c1 : Nat) (A2 : Option Addr) (c2 c3 : Nat) (hob : OwnB h bb bv) (hok : OkL f.regs (sL bv)) :
    EX Try.prog 41 [.agg ⟨funcC { f with blocks := sL bv } A1 c1 A2 c2 (some ⟨bb, 0, none⟩) c3⟩] h (fun v h' => ∃ lb kv bm, v = .agg ⟨funcC { f with blocks := waysS bm } A1 c1 A2 c2 (some ⟨lb, 0, none⟩) (capOf 9)⟩ ∧ OwnB h' lb kv ∧ CodeS f.regs (sL bv) bm ∧ sL kv = waysS bm ∧ OffS (fun j => j = bb) h h' ∧ ∀ i, Foot lb kv i → i = bb ∨ h.n ≤ i) := by
  refine EX.intro (fn := Try.f41) (c := (Try.f41.body.getD .skip)) Try.func41 (by kernel_rfl) Try.ntmps41 (by kernel_rfl) fun π s0 => ?_
  conv => arg 2; whnf
  have hd := s0.dom
  ((with_reducible apply W.seq); repeat (first | ((with_reducible apply RS.alloc); exact rfl; exact rfl) | ((with_reducible apply RS.box); exact rfl; exact rfl; exact rfl) | ((with_reducible apply RS.nil); exact mixed; kernel_rfl) | ((with_reducible apply W.reg); kernel_rfl) | ((with_reducible apply thenK_n))))
  refine W.absorbX fun B0 π0 a0 => ?_
  have hF : B0.m (π 0) = some ⟨⟨funcC { f with blocks := sL bv } A1 c1 A2 c2 (some ⟨bb, 0, none⟩) c3⟩, 35⟩ := a0.loc 0 (Nat.lt_of_lt_of_le Nat.zero_lt_one (Nat.le_succ 1))
  have hrb : h.n ≤ π 1 := a0.lo 1 (Nat.lt_succ_self 1)
  have hRb : B0.m (π 1) = some ⟨⟨cellsV (.agg ⟨funcC ⟨⟨#[]⟩, 0, 0, 0, [], []⟩ none 0 none 0 none 0⟩)⟩, 35⟩ := a0.loc 1 (Nat.lt_succ_self 1)
  generalize π 0 = fb at *
  generalize π 1 = rb at *
  have hFn := a0.dom _ _ hF
  have hRw : rwM ≤ rb := Nat.le_trans s0.rw hrb
  have hbbn : bb < h.n := hd _ _ hob.m
  have hrbb : ¬ rb = bb := by omega
  repeat (first | ((with_reducible apply RS.loadNB); exact rfl; exact rfl; exact rfl; exact hF; exact hFn; exact Nat.le_of_ble_eq_true rfl; exact rfl) | ((with_reducible apply RS.callEx); exact rfl; exact rfl; exact rfl; intro B1 hB1; refine ⟨_, code_ex B1 bb bv f A1 c1 A2 c2 c3 (hob.up (fun i x hx => hB1.up _ _ (a0.up _ _ hx))) hok, ?_⟩; rintro v H2 π2 ⟨bm, rfl, hown2, hcode2, hoff2, hnew2, hsub2⟩ sH2 hle2; have hokm := hok.less hcode2.less; have hmp := hokm.pos; have hml := hokm.len; have hmt := hokm.size; rw [sL_length] at hmp hml; rw [sizeS_eq] at hmt) | ((with_reducible apply RS.callEx); exact rfl; exact rfl; exact rfl; intro B3 hB3; refine ⟨_, ways_ex B3 bb bm { f with blocks := sL bm } A1 c1 A2 c2 c3 rfl hmp hml (hown2.up hB3.up) hokm.tgt hmt, ?_⟩; rintro v H4 π4 ⟨lb, kv, rfl, hown4, hsl4, hoff4, hft4⟩ sH4 hle4; have hoff := func_off hoff2 hB3.oldH hoff4 hnew2; have hRb4 := (hoff.2 rb (hB1.dom _ _ (hB1.up _ _ hRb)) hrbb).trans (hB1.up _ _ hRb); have hRb4n := sH4.dom _ _ hRb4) | ((with_reducible apply RS.storeB); exact rfl; exact rfl; exact rfl; exact hRb4; exact hRb4n; exact hRw; exact Nat.le_of_ble_eq_true rfl; exact rfl; exact rfl; exact rfl) | ((with_reducible apply RS.nil); exact mixed; kernel_rfl) | ((with_reducible apply W.seq)) | ((with_reducible apply W.reg); kernel_rfl) | ((with_reducible apply W.ret)) | ((with_reducible apply thenK_n)))
  have oA : OffS (fun j => j = bb) h H4 := ((a0.oldH.trans hB1.oldH).off (S := fun j => j = bb)).same hoff
  refine endsK_ret _ (.cons (.baseN (vs := funcC { f with blocks := waysS (sL bm) } A1 c1 A2 c2 (some ⟨lb, 0, none⟩) (capOf 9)) rfl (by show (if rb = rb then _ else _) = _; rw [if_pos rfl]) (Nat.le_of_ble_eq_true rfl) rfl) .nil) fun B' a => ⟨lb, kv, sL bm, rfl, ?_, hcode2, hsl4, (oA.trans (OffS.set _ rb _) fun j hj e => absurd hrb (by omega)).same a.oldH.off, ?_⟩
  · refine hown4.up35 fun j x hx he => a.up _ _ ?_
    show (if j = rb then _ else H4.m j) = _
    rw [if_neg (ne_of_elem hx hRb4 he)]
    exact hx
  · intro i hi
    have h1 : h.n ≤ B1.n := Nat.le_trans a0.le hB1.le
    have h2 : B1.n ≤ B3.n := Nat.le_trans hoff2.1 hB3.le
    rcases hft4 i hi with (e | ⟨b, hb, hbn, hbr⟩) | e
    · exact .inl e
    · have := hnew2 b hb hbn
      exact .inr (by omega)
    · exact .inr (by omega)
end Go.Proofs.Ytjhloakacicdiaa
namespace Go.Proofs.Ytjhloakacicdiaa
open Go.AH
attribute [local irreducible] W RS
def funcRS (h : Hp) (cs : List Value) (f : FuncS) : Prop := ∃ A1 c1 A2 c2 A3 c3 sec, cs = funcC f A1 c1 A2 c2 A3 c3 ∧ sec.length = f.secret ∧ SlAt h A1 1 sec boolR ∧ SlAt h A2 1 f.slots intR ∧ SlAt h A3 9 f.blocks (blockR h)
theorem funcRS_mono {h H : Hp} (hm : ∀ i b, h.m i = some b → H.m i = some b) {cs : List Value} {f : FuncS} (r : funcRS h cs f) : funcRS H cs f := by
  obtain ⟨A1, c1, A2, c2, A3, c3, sec, e, h0, s, t, u⟩ := r
  exact ⟨A1, c1, A2, c2, A3, c3, sec, e, h0, s.mono hm fun _ _ h => h, t.mono hm fun _ _ h => h, u.mono hm fun _ _ h => blockR_mono hm h⟩
theorem funcRS.r {h : Hp} {cs : List Value} {f : FuncS} (r : funcRS h cs f) : funcR h cs f := by
  obtain ⟨A1, c1, A2, c2, A3, c3, sec, e, h0, s, t, u⟩ := r
  exact ⟨A1, c1, A2, c2, A3, c3, e, t, u⟩
theorem funcRS.len {h : Hp} {cs : List Value} {f : FuncS} (r : funcRS h cs f) : cs.length = 6 := by
  obtain ⟨A1, c1, A2, c2, A3, c3, sec, e, _⟩ := r
  rw [e]; rfl
theorem funcRS.one {h : Hp} {cs : List Value} {f : FuncS} (r : funcRS h cs f) : cs.all (·.oneCell') = true := by
  obtain ⟨A1, c1, A2, c2, A3, c3, sec, e, _⟩ := r
  rw [e]; rfl
structure CopyOK (f : FuncS) : Prop where
  pos : 0 < f.blocks.length
  sec : f.secret ≤ 1000000
  slots : f.slots.length ≤ 1000000
  len : f.blocks.length ≤ 100000
  ins : ∀ b ∈ f.blocks, b.ins.length ≤ 1000000
  args : ∀ b ∈ f.blocks, ∀ x ∈ b.ins, x.args.length ≤ 1000000
def cutE (h : Hp) : Hp where
  m i := match h.m i with
    | some b => if b.elem = 35 ∨ b.elem = 25 then none else some b
    | none => none
  n := h.n
theorem cutE_get {h : Hp} {i : Nat} {b : Blk} (hb : (cutE h).m i = some b) : h.m i = some b ∧ b.elem ≠ 35 ∧ b.elem ≠ 25 := by
  unfold cutE at hb
  simp only at hb
  cases hm : h.m i with
  | none => rw [hm] at hb; cases hb
  | some c =>
    rw [hm] at hb
    simp only at hb
    split at hb
    · cases hb
    · rename_i hn
      injection hb with hb
      subst hb
      rw [not_or] at hn
      exact ⟨rfl, hn⟩
theorem cutE_in {h : Hp} {i : Nat} {b : Blk} (hb : h.m i = some b) (h1 : b.elem ≠ 35) (h2 : b.elem ≠ 25) : (cutE h).m i = some b := by
  unfold cutE
  simp only [hb]
  rw [if_neg (by rw [not_or]; exact ⟨h1, h2⟩)]
theorem cutE_mono {h H : Hp} (hm : ∀ i b, h.m i = some b → b.elem ≠ 35 → b.elem ≠ 25 → H.m i = some b) : ∀ i b, (cutE h).m i = some b → (cutE H).m i = some b := fun i b hb => by
  obtain ⟨h1, h2, h3⟩ := cutE_get hb
  exact cutE_in (hm i b h1 h2 h3) h2 h3
theorem cutE_le {h : Hp} : ∀ i b, (cutE h).m i = some b → h.m i = some b := fun _ _ hb => (cutE_get hb).1
theorem OwnB.cut {h : Hp} {bb : Nat} {bv : List BV} (o : OwnB h bb bv) : OwnB (cutE h) bb bv :=
  ⟨o.rw, cutE_in o.m (by simp) (by simp), fun b hb hn => ⟨(o.row b hb hn).1, cutE_in (o.row b hb hn).2 (by simp) (by simp)⟩, fun b hb x hx hn => ⟨(o.arg b hb x hx hn).1, cutE_in (o.arg b hb x hx hn).2 (by simp) (by simp)⟩, o.sep⟩
def TurnEX (g : FuncId) (K : FuncS → Prop) (R : FuncS → FuncS → Prop) : Prop := ∀ (B : Hp) (N bb : Nat) (bv : List BV) (f : FuncS) (A1 : Option Addr) (c1 : Nat) (A2 : Option Addr) (c2 : Nat) (sec : List Bool), K f → sec.length = f.secret → rwM ≤ N → N ≤ bb → B.m bb = some ⟨⟨(bv.map BV.c).flatten⟩, 47⟩ → OwnD B N bv → sL bv = f.blocks → RowE B N 4 A1 sec .bool → RowE B N 3 A2 f.slots (.int .i64) →
  EX Try.prog g [.agg ⟨funcC f A1 c1 A2 c2 (some ⟨bb, 0, none⟩) (capOf 9)⟩] B (fun v h' => ∃ f' cs, v = .agg ⟨cs⟩ ∧ funcRS (cutE h') cs f' ∧ R f f' ∧ OffS (fun i => N ≤ i) B h')
theorem Absb.part {P : Program} {B B2 H B' : Hp} {π : Nat → Nat} {k : Nat} {l l2 : List (Nat × Option Blk)} {k2 : Nat} (hden : (⟨B, π, k, l⟩ : SH).den = H) (hn : B2.n = B.n) (hk : k ≤ k2) (hl : ∀ i, i < k → lookB l2 i = lookB l i) (a : Absb (P := P) ⟨B2, π, k2, l2⟩ B') : ∀ i b, B.n ≤ i → H.m i = some b → B'.m i = some b := by
  intro i b hi hb
  rw [← hden] at hb
  simp only [SH.den] at hb
  rw [if_neg (by omega)] at hb
  cases hx : idx π k i with
  | none => rw [hx] at hb; cases hb
  | some j =>
    rw [hx] at hb
    obtain ⟨g1, g2⟩ := idx_some hx
    have : B'.m (π j) = lookB l2 j := a.loc j (show j < k2 by omega)
    rw [g2] at this
    rw [this, hl j g1]; exact hb
structure EachI (h : Hp) (ob : Nat) (p : ProgS) (A2 : Option Addr) (c2 : Nat) (R : FuncS → FuncS → Prop) (i r : Nat) (L : List (List Value)) (fs : List FuncS) (B : Hp) : Prop where
  le : i ≤ p.funcs.length
  old : Old h B
  o : B.m ob = some ⟨⟨[rowVl 6 r L, .slice A2 p.globals.length c2, .int .i64 p.data, .int .i64 p.main]⟩, 25⟩
  row : L ≠ [] → h.n ≤ r ∧ B.m r = some ⟨⟨L.flatten⟩, 35⟩
  len : L.length = i
  flen : fs.length = i
  at_ : ∀ (j : Nat) (c : List Value) (f' : FuncS), L[j]? = some c → fs[j]? = some f' → funcRS (cutE B) c f'
  rel : ∀ (j : Nat) (f f' : FuncS), p.funcs[j]? = some f → fs[j]? = some f' → R f f'
theorem EachI.up {h : Hp} {ob : Nat} {p : ProgS} {A2 : Option Addr} {c2 : Nat} {R : FuncS → FuncS → Prop} {i r : Nat} {L : List (List Value)} {fs : List FuncS} {B B' : Hp} (s : EachI h ob p A2 c2 R i r L fs B) (hd : ∀ i x, B.m i = some x → i < B.n) (o : Old B B') : EachI h ob p A2 c2 R i r L fs B' :=
  ⟨s.le, s.old.trans o, o.up hd _ _ s.o, fun hn => ⟨(s.row hn).1, o.up hd _ _ (s.row hn).2⟩, s.len, s.flen, fun j c f' h1 h2 => funcRS_mono (cutE_mono fun i b hb _ _ => o.up hd i b hb) (s.at_ j c f' h1 h2), s.rel⟩
theorem EachI.wid {h : Hp} {ob : Nat} {p : ProgS} {A2 : Option Addr} {c2 : Nat} {R : FuncS → FuncS → Prop} {i r : Nat} {L : List (List Value)} {fs : List FuncS} {B : Hp} (s : EachI h ob p A2 c2 R i r L fs B) : ∀ c ∈ L, c.length = 6 := by
  intro c hc
  obtain ⟨j, hj⟩ := List.mem_iff_getElem?.1 hc
  have hl := (List.getElem?_eq_some_iff.1 hj).1
  have hll := s.len
  have hfl := s.flen
  obtain ⟨f', hf⟩ : ∃ f', fs[j]? = some f' := ⟨_, List.getElem?_eq_getElem (by omega)⟩
  exact (s.at_ j c f' hj hf).len
theorem each_close {h C B2 H7 B' : Hp} {ob : Nat} {p : ProgS} {A2 : Option Addr} {c2 : Nat} {R : FuncS → FuncS → Prop} {i r k7 : Nat} {L : List (List Value)} {fs : List FuncS} {π2 : Nat → Nat} {l7 : List (Nat × Option Blk)} {y : Option Blk} {f f' : FuncS} {cs : List Value}
    (hIC : EachI h ob p A2 c2 R i r L fs C) (hdC : ∀ i x, C.m i = some x → i < C.n) (hob : h.n ≤ ob) (hf : p.funcs[i]? = some f) (hden7 : (⟨C, π2, k7, l7⟩ : SH).den = H7) (hF7 : funcRS (cutE H7) cs f') (hRf : R f f') (hn : B2.n = C.n)
    (ho : B2.m ob = some ⟨⟨[rowVl 6 (π2 (k7 + 1)) (L ++ [cs]), .slice A2 p.globals.length c2, .int .i64 p.data, .int .i64 p.main]⟩, 25⟩) (hB2 : ∀ j, j ≠ ob → (L ≠ [] → j ≠ r) → B2.m j = C.m j)
    (a : Absb (P := Try.prog) ⟨B2, π2, k7 + 1 + 1, (k7 + 1, some ⟨⟨(L ++ [cs]).flatten⟩, 35⟩) :: (k7, y) :: l7⟩ B') : EachI h ob p A2 c2 R (i + 1) (π2 (k7 + 1)) (L ++ [cs]) (fs ++ [f']) B' := by
  have hil := (List.getElem?_eq_some_iff.1 hf).1
  have hle : B2.n ≤ B'.n := a.le
  have hCo := hdC _ _ hIC.o
  have keep : ∀ i b, C.m i = some b → b.elem ≠ 35 → b.elem ≠ 25 → B'.m i = some b := by
    intro j b hb h1 h2
    have hj := hdC j b hb
    have : B'.m j = B2.m j := a.old j (show j < B2.n by omega)
    rw [this, hB2 j (ne_of_elem hb hIC.o h2) fun hn => ne_of_elem hb (hIC.row hn).2 h1]
    exact hb
  have hold := hIC.old.1
  refine ⟨hil, ⟨by omega, fun j hj => ?_⟩, ?_, fun _ => ⟨?_, ?_⟩, by simp [hIC.len], by simp [hIC.flen], fun j c g h1 h2 => ?_, fun j x g h1 h2 => ?_⟩
  · have : B'.m j = B2.m j := a.old j (show j < B2.n by omega)
    rw [this, hB2 j (by omega) fun hn => by have := (hIC.row hn).1; omega]
    exact hIC.old.2 j hj
  · have : B'.m ob = B2.m ob := a.old ob (show ob < B2.n by omega)
    rw [this]; exact ho
  · have : B2.n ≤ π2 (k7 + 1) := a.lo (k7 + 1) (show k7 + 1 < k7 + 1 + 1 by omega)
    omega
  · have : B'.m (π2 (k7 + 1)) = lookB ((k7 + 1, some ⟨⟨(L ++ [cs]).flatten⟩, 35⟩) :: (k7, y) :: l7) (k7 + 1) := a.loc (k7 + 1) (show k7 + 1 < k7 + 1 + 1 by omega)
    rw [this, look_cons, if_pos rfl]
  · have hll := hIC.len
    have hfl := hIC.flen
    by_cases hj : j < L.length
    · rw [List.getElem?_append_left hj] at h1
      rw [List.getElem?_append_left (by omega)] at h2
      exact funcRS_mono (cutE_mono keep) (hIC.at_ j c g h1 h2)
    · have hjl : j < (L ++ [cs]).length := (List.getElem?_eq_some_iff.1 h1).1
      have hje : j = L.length := by simp at hjl; omega
      rw [List.getElem?_append_right (by omega), hje, Nat.sub_self] at h1
      rw [List.getElem?_append_right (by omega), show j - fs.length = 0 by omega] at h2
      simp only [List.getElem?_cons_zero, Option.some.injEq] at h1 h2
      subst h1; subst h2
      refine funcRS_mono (cutE_mono fun q b hb e1 e2 => ?_) hF7
      by_cases hq : q < C.n
      · refine keep q b ?_ e1 e2
        rw [← hden7] at hb
        simp only [SH.den] at hb
        rw [if_pos hq] at hb
        exact hb
      · refine Absb.part hden7 hn (show k7 ≤ k7 + 1 + 1 by omega) (fun z hz => ?_) a q b (by omega) hb
        rw [look_cons, if_neg (show ¬ k7 + 1 = z by omega), look_cons, if_neg (show ¬ k7 = z by omega)]
  · have hfl := hIC.flen
    by_cases hj : j < fs.length
    · rw [List.getElem?_append_left hj] at h2
      exact hIC.rel j x g h1 h2
    · have hjl : j < (fs ++ [f']).length := (List.getElem?_eq_some_iff.1 h2).1
      have hje : j = fs.length := by simp at hjl; omega
      rw [List.getElem?_append_right (by omega), hje, Nat.sub_self] at h2
      rw [hje, hfl, hf] at h1
      simp only [List.getElem?_cons_zero, Option.some.injEq] at h1 h2
      subst h1; subst h2
      exact hRf
theorem lookHd (k : Nat) (b : Option Blk) (l : List (Nat × Option Blk)) : lookB ((k, b) :: l) k = b := by rw [look_cons, if_pos rfl]
set_option maxRecDepth 100000 in
theorem each_ex (g : FuncId) [hgf : GF Try.prog g] (K : FuncS → Prop) (R : FuncS → FuncS → Prop) (ht : TurnEX g K R) (p : ProgS) (hK : ∀ f ∈ p.funcs, K f ∧ CopyOK f) (hn : p.funcs.length ≤ 100000) (h : Hp) (pb : Nat) (e : TypeId) (A1 : Option Addr) (c1 : Nat) (A2 : Option Addr) (c2 : Nat) (hP : h.m pb = some ⟨⟨progC p A1 c1 A2 c2⟩, e⟩) (hs : SlAt h A1 6 p.funcs (funcRS h)) :
    EX Try.prog 37 [.pointer (some ⟨pb, 0, none⟩), .func (.func g) #[] #[]] h (fun v h' => ∃ ob A c fs, v = .pointer (some ⟨ob, 0, none⟩) ∧ h'.m ob = some ⟨⟨progC { p with funcs := fs } A c A2 c2⟩, 25⟩ ∧ SlAt h' A 6 fs (funcRS h') ∧ fs.length = p.funcs.length ∧ (∀ (i : Nat) (f f' : FuncS), p.funcs[i]? = some f → fs[i]? = some f' → R f f') ∧ Old h h' ∧ h.n ≤ ob) := by
  refine EX.intro (fn := Try.f37) (c := (Try.f37.body.getD .skip)) Try.func37 (by kernel_rfl) Try.ntmps37 (by kernel_rfl) fun π s0 => ?_
  conv => arg 2; whnf
  have hd := s0.dom
  have hPn := hd _ _ hP
  ((with_reducible apply W.seq); repeat (first | ((with_reducible apply RS.assign); exact rfl; exact rfl; exact rfl) | ((with_reducible apply RS.nil); exact mixed; kernel_rfl) | ((with_reducible apply W.reg); kernel_rfl) | ((with_reducible apply thenK_n))))
  ((with_reducible apply W.seq); repeat (fail))
  ((with_reducible apply W.seq); repeat (first | ((with_reducible apply RS.eqPtrNil); exact rfl; exact rfl; exact rfl; exact rfl) | ((with_reducible apply RS.move); exact rfl; exact rfl; exact rfl) | ((with_reducible apply RS.nil); exact mixed; kernel_rfl) | ((with_reducible apply W.reg); kernel_rfl) | ((with_reducible apply W.skip)) | ((with_reducible apply W.condF); kernel_rfl; exact rfl) | ((with_reducible apply thenK_n))))
  ((with_reducible apply W.seq); repeat (first | ((with_reducible apply RS.loadNB); exact rfl; exact rfl; exact rfl; exact hP; exact hPn; exact Nat.le_of_ble_eq_true rfl; exact rfl) | ((with_reducible apply RS.nilCheck); exact rfl; exact rfl; exact rfl) | ((with_reducible apply RS.move); exact rfl; exact rfl; exact rfl) | ((with_reducible apply RS.store); exact rfl; exact rfl; exact rfl; exact rfl; exact rfl; exact Nat.le_of_ble_eq_true rfl; exact rfl; exact rfl; exact rfl) | ((with_reducible apply RS.alloc); exact rfl; exact rfl) | ((with_reducible apply RS.nil); exact mixed; kernel_rfl) | ((with_reducible apply W.reg); kernel_rfl) | ((with_reducible apply thenK_n))))
  ((with_reducible apply W.seq); repeat (first | ((with_reducible apply RS.fieldAddr); exact rfl; exact rfl; exact rfl) | ((with_reducible apply RS.store); exact rfl; exact rfl; exact rfl; exact rfl; exact rfl; exact Nat.le_of_ble_eq_true rfl; exact rfl; exact rfl; exact rfl) | ((with_reducible apply RS.nil); exact mixed; kernel_rfl) | ((with_reducible apply W.reg); kernel_rfl) | ((with_reducible apply thenK_n))))
  refine W.absorbX fun B0 π0 a0 => ?_
  have hO0 : B0.m (π 0) = some ⟨⟨[.slice none 0 0, .slice A2 p.globals.length c2, .int .i64 p.data, .int .i64 p.main]⟩, 25⟩ := a0.loc 0 (Nat.lt_succ_self 0)
  have hob : h.n ≤ π 0 := a0.lo 0 (Nat.lt_succ_self 0)
  generalize π 0 = ob at *
  have hobr : rwM ≤ ob := Nat.le_trans s0.rw hob
  replace hP := a0.up _ _ hP
  replace hPn := a0.dom _ _ hP
  ((with_reducible apply W.seq); repeat (fail))
  ((with_reducible apply W.seq); repeat (first | ((with_reducible apply RS.load1B); exact rfl; exact rfl; exact rfl; exact hP; exact hPn; exact rfl) | ((with_reducible apply RS.nilCheck); exact rfl; exact rfl; exact rfl) | ((with_reducible apply RS.move); exact rfl; exact rfl; exact rfl) | ((with_reducible apply RS.lenSl); exact rfl; exact rfl; exact rfl) | ((with_reducible apply RS.fieldAddr); exact rfl; exact rfl; exact rfl) | ((with_reducible apply RS.nil); exact mixed; kernel_rfl) | ((with_reducible apply W.reg); kernel_rfl) | ((with_reducible apply W.block)) | ((with_reducible apply thenK_n))))
  refine W.loopN (X := Nat × Nat × List (List Value) × List FuncS) (fun x => [(1, .func (.func g) #[] #[]), (5, .pointer (some ⟨ob, 0, none⟩)), (17, .slice A1 p.funcs.length c1), (18, .int .i64 (p.funcs.length : Int)), (19, .int .i64 (x.1 : Int))])
    (fun x B => EachI h ob p A2 c2 R x.1 x.2.1 x.2.2.1 x.2.2.2 B) (fun x => p.funcs.length - x.1)
    (fun B' a => ⟨(0, 0, [], []), ?_, ⟨Nat.zero_le _, a0.oldH.trans a.oldH, a.up _ _ hO0, fun hn => absurd rfl hn, rfl, rfl, (fun j c f' h => by simp at h), (fun j f f' _ h => by simp at h)⟩⟩) ?_
  · (repeat' (first | exact trivial | exact rfl | apply And.intro)); done
  rintro ⟨i, r, L, fs⟩ B π1 sB hI
  dsimp only at hI ⊢
  have hi := hI.le
  have hO := hI.o
  have hOn := sB.dom _ _ hO
  by_cases hlt : i < p.funcs.length
  · obtain ⟨f, hf⟩ : ∃ f, p.funcs[i]? = some f := ⟨_, List.getElem?_eq_getElem hlt⟩
    obtain ⟨hKf, hC⟩ := hK f (List.mem_of_getElem? hf)
    obtain ⟨gb, go, gcs, ge, rfl, hG0, hGl, hGr⟩ := hs.get i f hf
    have hG := hI.old.up hd _ _ hG0
    have hGn := sB.dom _ _ hG
    obtain ⟨B1, d1, B2, d2, B3, d3, sec, hGv, hsec, hsS, hsL, hsB⟩ := hGr
    have hsS := hsS.mono (hI.old.up hd) fun _ _ h => h
    have hsL := hsL.mono (hI.old.up hd) fun _ _ h => h
    have hsB := hsB.mono (hI.old.up hd) fun _ _ h => blockR_mono (hI.old.up hd) h
    ((with_reducible apply W.seq); repeat (first | ((with_reducible apply RS.cmpT); exact rfl; exact rfl; exact rfl; exact rfl; (simp only [cmpP]; omega)) | ((with_reducible apply RS.nil); exact mixed; kernel_rfl) | ((with_reducible apply W.reg); kernel_rfl) | ((with_reducible apply thenK_n))))
    ((with_reducible apply W.seq); repeat (first | ((with_reducible apply W.skip)) | ((with_reducible apply W.condT); kernel_rfl; exact rfl) | ((with_reducible apply thenK_n))))
    ((with_reducible apply W.seq); repeat (first | ((with_reducible apply W.block))))
    ((with_reducible apply W.seq); ((with_reducible apply W.reg); kernel_rfl); repeat (first | ((with_reducible apply RS.indexAddrS); exact rfl; exact rfl; exact rfl; exact rfl; exact rfl; omega) | ((with_reducible apply RS.loadNB); exact rfl; exact rfl; exact rfl; exact hG; exact hGn; exact hGl; exact hGv) | ((with_reducible apply RS.store); exact rfl; exact rfl; exact rfl; exact rfl; exact rfl; exact Nat.le_of_ble_eq_true rfl; exact rfl; exact rfl; exact rfl) | ((with_reducible apply RS.alloc); exact rfl; exact rfl) | ((with_reducible apply RS.nil); exact mixed; kernel_rfl))); (with_reducible apply thenK_n)
    refine W.absorbX fun C π2 a2 => ?_
    have hq : C.m (π1 0) = some ⟨⟨funcC f B1 d1 B2 d2 B3 d3⟩, 35⟩ := a2.loc 0 (Nat.lt_succ_self 0)
    generalize π1 0 = q at *
    have hqn := a2.dom _ _ hq
    have hIC := hI.up sB.dom a2.oldH
    have hOC := hIC.o
    have hOCn := a2.dom _ _ hOC
    replace hsS := hsS.mono a2.up fun _ _ h => h
    replace hsL := hsL.mono a2.up fun _ _ h => h
    replace hsB := hsB.mono a2.up fun _ _ h => blockR_mono a2.up h
    by_cases hLe : L = []
    · subst hLe
      repeat (first | ((with_reducible apply RS.load1X); exact rfl; exact rfl; exact rfl; exact hOC; exact hOCn; exact rfl) | ((with_reducible apply RS.loadNB); exact rfl; exact rfl; exact rfl; exact hq; exact hqn; exact Nat.le_of_ble_eq_true rfl; exact rfl) | ((with_reducible apply (RS.callY (g0 := 10))); exact rfl; exact rfl; exact rfl; exact rfl; intro B4 he4 hB4; refine ⟨_, copy_ex B4 f B1 d1 B2 d2 B3 d3 sec hsec (hsS.mono hB4.up fun _ _ h => h) (hsL.mono hB4.up fun _ _ h => h) (hsB.mono hB4.up fun _ _ h => blockR_mono hB4.up h) hC.pos hC.sec hC.slots hC.len hC.ins hC.args, (fun v H' ⟨_, _, _, _, _, _, _, _, _, _, _, ho, _, _⟩ i hi => ho.2 i (Nat.lt_of_lt_of_le hi hB4.le)), ?_⟩; rintro v H5 k5 l5 ⟨A1', c1', A2', c2', bb, bv, rfl, hm5, hbb5, hod5, hsl5, ho5, hr1, hr2⟩ sH5 hle5 hden5 hwf5 hk5) | ((with_reducible apply (RS.callY (g0 := g))); exact rfl; exact rfl; exact rfl; exact rfl; intro B6 he6 hB6; rw [hden5] at he6; subst he6; refine ⟨_, ht H5 B4.n bb bv f A1' c1' A2' c2' sec hKf hsec (Nat.le_trans hB4.rw hB4.le) hbb5 hm5 hod5 hsl5 hr1 hr2, (fun v H' ⟨_, _, _, _, _, ho⟩ i hi => ho.2 i (Nat.lt_of_lt_of_le hi hB6.le) (fun e => absurd (Nat.le_trans hB4.le e) (Nat.not_le.2 hi))), ?_⟩; rintro v H7 k7 l7 ⟨f', cs, rfl, ⟨E1, e1, E2, e2, E3, e3, sec', rfl, hF7b⟩, hRf, ho7⟩ sH7 hle7 hden7 hwf7 hk7; have hF7 : funcRS (cutE H7) (funcC f' E1 e1 E2 e2 E3 e3) f' := ⟨E1, e1, E2, e2, E3, e3, sec', rfl, hF7b⟩) | ((with_reducible apply RS.buildSlice); exact rfl; exact rfl; exact rfl; exact rfl; exact rfl; exact rfl; exact rfl; exact rfl) | ((with_reducible apply RS.appendNil); exact rfl; exact rfl; exact rfl; exact rfl; exact rfl; exact rfl; exact blt_iff.2 (Nat.lt_succ_self _); exact lookHd _ _ _; exact Nat.le_of_ble_eq_true rfl; exact Nat.zero_lt_one; decide; decide) | ((with_reducible apply (RS.nilP mixed [(1, 2), (0, 2), (2, 3), (1, 3), (0, 3), (2, 4), (1, 4), (0, 4), (1, 5), (0, 5), (1, 6), (0, 6)])); kernel_rfl; (repeat (refine ⟨fun x y hx hy => (by obtain rfl := Option.some.inj hx; obtain rfl := Option.some.inj hy; exact pairR_free rfl rfl rfl rfl rfl rfl rfl (Nat.zero_le _) rfl), ?_⟩)); exact trivial; exact rfl) | ((with_reducible apply RS.storeB); exact rfl; exact rfl; exact rfl; exact hOC; exact hOCn; exact hobr; exact Nat.le_of_ble_eq_true rfl; exact rfl; exact rfl; exact rfl) | ((with_reducible apply RS.move); exact rfl; exact rfl; exact rfl) | ((with_reducible apply RS.add1); exact rfl; exact rfl; exact rfl; exact rfl; omega) | ((with_reducible apply RS.fieldAddr); exact rfl; exact rfl; exact rfl) | ((with_reducible apply RS.nil); exact mixed; kernel_rfl) | ((with_reducible apply W.reg); kernel_rfl) | ((with_reducible apply thenK_n)) | ((with_reducible apply blockK_n)))
      refine roundN_n rfl fun B' a => ⟨(i + 1, π2 (k7 + 1), [funcC f' E1 e1 E2 e2 E3 e3], fs ++ [f']), ?_, ?_, ?_⟩
      · (repeat' (first | exact trivial | exact rfl | apply And.intro)); done
      · refine each_close hIC a2.dom hob hf hden7 hF7 hRf (by rfl) (by show (if ob = ob then _ else _) = _; rw [if_pos rfl]; rfl) (fun j hj _ => by show (if j = ob then _ else C.m j) = _; rw [if_neg hj]) a
      · show p.funcs.length - (i + 1) < p.funcs.length - i
        omega
    · have hrv := rowVl_ne (sz := 6) (r := r) hLe
      rw [hrv] at hOC
      obtain ⟨hrh, hrC⟩ := hIC.row hLe
      have hrCn := a2.dom _ _ hrC
      have hrCw : rwM ≤ r := Nat.le_trans s0.rw hrh
      have hLl : L.flatten.length = L.length * 6 := flat_len hI.wid
      have hLi := hI.len
      have hrob : ob ≠ r := ne_of_elem hOC hrC (by simp)
      have hOCk : (C.kill r).m ob = some ⟨⟨[.slice (some ⟨r, 0, none⟩) L.length (capOf 6), .slice A2 p.globals.length c2, .int .i64 p.data, .int .i64 p.main]⟩, 25⟩ := by
        show (if ob = r then none else C.m ob) = _
        rw [if_neg hrob]; exact hOC
      repeat (first | ((with_reducible apply RS.load1X); exact rfl; exact rfl; exact rfl; exact hOC; exact hOCn; exact rfl) | ((with_reducible apply RS.loadNB); exact rfl; exact rfl; exact rfl; exact hq; exact hqn; exact Nat.le_of_ble_eq_true rfl; exact rfl) | ((with_reducible apply (RS.callY (g0 := 10))); exact rfl; exact rfl; exact rfl; exact rfl; intro B4 he4 hB4; refine ⟨_, copy_ex B4 f B1 d1 B2 d2 B3 d3 sec hsec (hsS.mono hB4.up fun _ _ h => h) (hsL.mono hB4.up fun _ _ h => h) (hsB.mono hB4.up fun _ _ h => blockR_mono hB4.up h) hC.pos hC.sec hC.slots hC.len hC.ins hC.args, (fun v H' ⟨_, _, _, _, _, _, _, _, _, _, _, ho, _, _⟩ i hi => ho.2 i (Nat.lt_of_lt_of_le hi hB4.le)), ?_⟩; rintro v H5 k5 l5 ⟨A1', c1', A2', c2', bb, bv, rfl, hm5, hbb5, hod5, hsl5, ho5, hr1, hr2⟩ sH5 hle5 hden5 hwf5 hk5) | ((with_reducible apply (RS.callY (g0 := g))); exact rfl; exact rfl; exact rfl; exact rfl; intro B6 he6 hB6; rw [hden5] at he6; subst he6; refine ⟨_, ht H5 B4.n bb bv f A1' c1' A2' c2' sec hKf hsec (Nat.le_trans hB4.rw hB4.le) hbb5 hm5 hod5 hsl5 hr1 hr2, (fun v H' ⟨_, _, _, _, _, ho⟩ i hi => ho.2 i (Nat.lt_of_lt_of_le hi hB6.le) (fun e => absurd (Nat.le_trans hB4.le e) (Nat.not_le.2 hi))), ?_⟩; rintro v H7 k7 l7 ⟨f', cs, rfl, ⟨E1, e1, E2, e2, E3, e3, sec', rfl, hF7b⟩, hRf, ho7⟩ sH7 hle7 hden7 hwf7 hk7; have hF7 : funcRS (cutE H7) (funcC f' E1 e1 E2 e2 E3 e3) f' := ⟨E1, e1, E2, e2, E3, e3, sec', rfl, hF7b⟩) | ((with_reducible apply RS.buildSlice); exact rfl; exact rfl; exact rfl; exact rfl; exact rfl; exact rfl; exact rfl; exact rfl) | ((with_reducible apply RS.growL); exact rfl; exact rfl; exact rfl; exact rfl; exact rfl; exact rfl; exact hrC; exact hrCn; exact hrCw; exact hLl; exact Nat.lt_succ_self _; exact lookHd _ _ _; exact rfl; exact rfl; omega; omega) | ((with_reducible apply (RS.nilP mixed [(1, 2), (0, 2), (2, 3), (1, 3), (0, 3), (2, 4), (1, 4), (0, 4), (1, 5), (0, 5), (1, 6), (0, 6)])); kernel_rfl; (repeat (refine ⟨fun x y hx hy => (by obtain rfl := Option.some.inj hx; obtain rfl := Option.some.inj hy; exact pairR_free rfl rfl rfl rfl rfl rfl rfl (Nat.zero_le _) rfl), ?_⟩)); exact trivial; exact rfl) | ((with_reducible apply RS.storeB); exact rfl; exact rfl; exact rfl; exact hOCk; exact hOCn; exact hobr; exact Nat.le_of_ble_eq_true rfl; exact rfl; exact rfl; exact rfl) | ((with_reducible apply RS.move); exact rfl; exact rfl; exact rfl) | ((with_reducible apply RS.add1); exact rfl; exact rfl; exact rfl; exact rfl; omega) | ((with_reducible apply RS.fieldAddr); exact rfl; exact rfl; exact rfl) | ((with_reducible apply RS.nil); exact mixed; kernel_rfl) | ((with_reducible apply W.reg); kernel_rfl) | ((with_reducible apply thenK_n)) | ((with_reducible apply blockK_n)))
      have hrv2 : rowVl 6 (π2 (k7 + 1)) (L ++ [funcC f' E1 e1 E2 e2 E3 e3]) = .slice (some ⟨π2 (k7 + 1), 0, none⟩) (L.length + 1) (capOf 6) := by rw [rowVl_ne (by simp)]; simp
      have hfl2 : (L ++ [funcC f' E1 e1 E2 e2 E3 e3]).flatten = L.flatten ++ funcC f' E1 e1 E2 e2 E3 e3 := by simp
      refine roundN_n rfl fun B' a => ⟨(i + 1, π2 (k7 + 1), L ++ [funcC f' E1 e1 E2 e2 E3 e3], fs ++ [f']), ?_, ?_, ?_⟩
      · (repeat' (first | exact trivial | exact rfl | apply And.intro)); done
      · refine each_close (L := L) (B2 := (C.kill r).set ob ⟨⟨[.slice (some ⟨π2 (k7 + 1), 0, none⟩) (L.length + 1) (capOf 6), .slice A2 p.globals.length c2, .int .i64 p.data, .int .i64 p.main]⟩, 25⟩) hIC a2.dom hob hf hden7 hF7 hRf (by rfl) (by rw [hrv2]; show (if ob = ob then _ else _) = _; rw [if_pos rfl]) (fun j hj hjr => by show (if j = ob then _ else (if j = r then none else C.m j)) = _; rw [if_neg hj, if_neg (hjr hLe)]) (by rw [hfl2]; exact a)
      · show p.funcs.length - (i + 1) < p.funcs.length - i
        omega
  · have hii : i = p.funcs.length := by omega
    have hll := hI.len
    have hfl := hI.flen
    obtain ⟨A, hA⟩ : ∃ A : Option Addr, A = if L = [] then none else some ⟨r, 0, none⟩ := ⟨_, rfl⟩
    obtain ⟨c, hc⟩ : ∃ c : Nat, c = if L = [] then 0 else capOf 6 := ⟨_, rfl⟩
    rw [rowVl_eq, ← hA, ← hc, show L.length = fs.length by omega] at hO
    repeat (first | ((with_reducible apply RS.assign); exact rfl; exact rfl; exact rfl) | ((with_reducible apply RS.cmpF); exact rfl; exact rfl; exact rfl; exact rfl; (simp only [cmpN]; omega)) | ((with_reducible apply RS.nil); exact mixed; kernel_rfl) | ((with_reducible apply W.seq)) | ((with_reducible apply W.reg); kernel_rfl) | ((with_reducible apply W.exit)) | ((with_reducible apply W.ret)) | ((with_reducible apply W.condF); kernel_rfl; exact rfl) | ((with_reducible apply thenK_n)) | ((with_reducible apply thenK_e)) | ((with_reducible apply blockK_hit); exact rfl) | ((with_reducible apply roundN_e)))
    refine endsK_ret _ (.cons (.tmp rfl) .nil) fun B' a => ⟨ob, A, c, fs, rfl, a.up _ _ hO, ⟨fun j f' hf' => ?_⟩, by omega, hI.rel, hI.old.trans a.oldH, hob⟩
    have hj := (List.getElem?_eq_some_iff.1 hf').1
    obtain ⟨cs, hcs⟩ : ∃ cs, L[j]? = some cs := ⟨_, List.getElem?_eq_getElem (by omega)⟩
    have hne : L ≠ [] := by intro e; rw [e] at hcs; simp at hcs
    rw [if_neg hne] at hA
    obtain ⟨t1, t2⟩ := flat_take hI.wid hcs
    refine ⟨r, 0, L.flatten, 35, hA, a.up _ _ (hI.row hne).2, by omega, ?_⟩
    rw [Nat.zero_add, t1]
    exact funcRS_mono (fun i b hb => a.up _ _ (cutE_le i b hb)) (hI.at_ j cs f' hcs hf')
end Go.Proofs.Ytjhloakacicdiaa
namespace Go.Proofs.Ytjhloakacicdiaa
open Go.AH
attribute [local irreducible] W RS
def lightG (g : GlobS) : Bool := decide (g.place ≤ 4096) && decide (g.size ≤ 4096) && decide (g.parts.length ≤ 50) && g.parts.all (fun x => decide (x.data.length ≤ 4096))
def lightI : List InsS → Nat → Option Nat
  | [], n => some n
  | x :: l, n => if n + x.args.length ≤ 4000 ∧ -1073741824 ≤ x.off ∧ x.off ≤ 1073741824 then lightI l (n + x.args.length) else none
def lightB : List BlockS → Nat → Option Nat
  | [], n => some n
  | b :: l, n => if n + b.ins.length ≤ 2000 then (lightI b.ins (n + b.ins.length)).bind (lightB l) else none
def lightS (f : FuncS) : Bool := f.slots.all (fun s => decide (0 ≤ s) && decide (s ≤ 1000) && decide (f.slots.length ≤ 4))
def lightF : List FuncS → Nat → Option Nat
  | [], n => some n
  | f :: l, n => if n + (1 + f.blocks.length + f.slots.length) ≤ 2000 ∧ 0 ≤ f.regs ∧ f.regs ≤ 300 ∧ lightS f = true then (lightB f.blocks (n + (1 + f.blocks.length + f.slots.length))).bind (lightF l) else none
def lightP (p : ProgS) : Bool := decide (p.funcs.length ≤ 20) && decide (p.globals.length ≤ 20) && decide (0 ≤ p.data) && decide (p.data ≤ 4096) && p.globals.all lightG && (lightF p.funcs 0).isSome
theorem drop_get {α : Type} {l : List α} {i : Nat} {x : α} (h : l[i]? = some x) : l.drop i = x :: l.drop (i + 1) := by
  have hlt := (List.getElem?_eq_some_iff.1 h).1
  rw [List.drop_eq_getElem_cons hlt]
  rw [List.getElem?_eq_getElem hlt] at h
  injection h with h
  rw [h]
theorem lightP_of {p : ProgS} (h1 : p.funcs.length ≤ 20) (h2 : p.globals.length ≤ 20) (h3 : 0 ≤ p.data) (h4 : p.data ≤ 4096) (h5 : p.globals.all lightG = true) : lightP p = (lightF p.funcs 0).isSome := by
  unfold lightP
  simp [h1, h2, h3, h4, h5]
set_option maxHeartbeats 2000000 in
set_option maxRecDepth 100000 in
theorem Light_tf (p : ProgS) (hok : p.ok) (h : Hp) (P1 : Option Addr) (d1 : Nat) (P2 : Option Addr) (d2 : Nat) (hfs : SlAt h P1 6 p.funcs (funcR h)) (hgs : SlAt h P2 4 p.globals (globR h)) :
    TF Try.prog 14 ⟨[.agg ⟨progC p P1 d1 P2 d2⟩]⟩ h (.bool (lightP p)) h := by
  refine TF.dom fun hd => ?_
  have hnf := hok.nfuncs
  have hng := hok.nglobs
  refine TF.still (fn := Try.f14) (c := (Try.f14.body.getD .skip)) Try.func14 (by kernel_rfl) Try.ntmps14 (by kernel_rfl) (by simp) ?_
  conv => arg 2; whnf
  repeat (first | ((with_reducible apply RS.move); exact rfl; exact rfl; exact rfl) | ((with_reducible apply RS.assign); exact rfl; exact rfl; exact rfl) | ((with_reducible apply RS.cmpC); exact rfl; exact rfl; exact rfl; exact rfl; exact rfl) | ((with_reducible apply RS.lenSl); exact rfl; exact rfl; exact rfl) | ((with_reducible apply RS.fieldAddr); exact rfl; exact rfl; exact rfl) | ((with_reducible apply RS.load1); exact rfl; exact rfl; exact rfl; exact rfl; exact rfl; exact rfl) | ((with_reducible apply RS.box); exact rfl; exact rfl; exact rfl) | ((with_reducible apply RS.nil); exact mixed; kernel_rfl) | ((with_reducible apply W.seq)) | ((with_reducible apply W.reg); kernel_rfl) | ((with_reducible apply thenK_n)))
  repeat' ((first | (((with_reducible apply RS.splitD); exact rfl; exact rfl) <;> intro _) | ((((with_reducible apply RS.splitG); exact rfl; exact rfl) <;> intro _) <;> (fail_if_success (exact absurd ‹true = false› (by decide))) <;> (fail_if_success (exact absurd ‹false = true› (by decide)))) | (((with_reducible apply W.condD); exact rfl) <;> intro _) | ((((with_reducible apply W.cond); exact rfl) <;> intro _) <;> (fail_if_success (exact absurd ‹true = false› (by decide))) <;> (fail_if_success (exact absurd ‹false = true› (by decide))))) <;> repeat (first | ((with_reducible apply RS.move); exact rfl; exact rfl; exact rfl) | ((with_reducible apply RS.assign); exact rfl; exact rfl; exact rfl) | ((with_reducible apply RS.pickT); exact rfl; exact rfl; exact rfl; exact rfl) | ((with_reducible apply RS.pickF); exact rfl; exact rfl; exact rfl; exact rfl) | ((with_reducible apply RS.cmpC); exact rfl; exact rfl; exact rfl; exact rfl; exact rfl) | ((with_reducible apply RS.lenSl); exact rfl; exact rfl; exact rfl) | ((with_reducible apply RS.fieldAddr); exact rfl; exact rfl; exact rfl) | ((with_reducible apply RS.load1); exact rfl; exact rfl; exact rfl; exact rfl; exact rfl; exact rfl) | ((with_reducible apply RS.skip); exact rfl; exact rfl) | ((with_reducible apply RS.nil); exact mixed; kernel_rfl) | ((with_reducible apply W.seq)) | ((with_reducible apply W.reg); kernel_rfl) | ((with_reducible apply W.block)) | ((with_reducible apply W.ret)) | ((with_reducible apply W.skip)) | ((with_reducible apply W.condT); kernel_rfl; exact rfl) | ((with_reducible apply thenK_n)) | ((with_reducible apply thenK_r))))
  rotate_left 4
  · rename_i u1 u2 u3 u4
    have hhead : p.globals.all lightG = true → lightP p = (lightF p.funcs 0).isSome := fun hz => lightP_of (by omega) (by omega) (by omega) (by omega) hz
    have hgno : p.globals.all lightG = false → lightP p = false := fun hz => by unfold lightP; rw [hz]; simp
    refine W.loop (X := Nat) (fun π i => [(1, .pointer (some ⟨π 0, 0, none⟩)), (3, .int .i64 0), (37, .slice P2 p.globals.length d2), (38, .int .i64 p.globals.length), (39, .int .i64 i)]) (fun _ => h) (fun π i => [(0, some ⟨⟨progC p P1 d1 P2 d2⟩, 25⟩)]) (fun i => i ≤ p.globals.length ∧ p.globals.all lightG = (p.globals.drop i).all lightG) (fun i => p.globals.length - i) [0] 0 ⟨Nat.zero_le _, rfl⟩ (by (refine FitL.mk ?_ ?_ ?_ ?_ <;> (repeat' (first | exact trivial | exact rfl | apply And.intro)); done)) ?_
    intro π i hI
    obtain ⟨hi, hI⟩ := hI
    dsimp only at hi hI ⊢
    by_cases hlt : i < p.globals.length
    · obtain ⟨g, hg⟩ : ∃ g, p.globals[i]? = some g := ⟨_, List.getElem?_eq_getElem hlt⟩
      obtain ⟨gb, go, gcs, ge, rfl, hG, hGl, hGv⟩ := hgs.get i g hg
      have hGn := hd _ _ hG
      obtain ⟨A', c', hGv, hGs⟩ := hGv
      have hgm := hok.globs g (List.mem_of_getElem? hg)
      have hgn := hgm.nparts
      rw [all_drop hg] at hI
      have hgf : lightG g = false → lightP p = false := fun hz => hgno (by rw [hI, hz]; rfl)
      repeat (first | ((with_reducible apply RS.indexAddrS); exact rfl; exact rfl; exact rfl; exact rfl; exact rfl; omega) | ((with_reducible apply RS.loadNB); exact rfl; exact rfl; exact rfl; exact hG; exact hGn; exact hGl; exact hGv) | ((with_reducible apply RS.move); exact rfl; exact rfl; exact rfl) | ((with_reducible apply RS.cmpT); exact rfl; exact rfl; exact rfl; exact rfl; (simp only [cmpP]; omega)) | ((with_reducible apply RS.cmpC); exact rfl; exact rfl; exact rfl; exact rfl; exact rfl) | ((with_reducible apply RS.fieldAddr); exact rfl; exact rfl; exact rfl) | ((with_reducible apply RS.load1); exact rfl; exact rfl; exact rfl; exact rfl; exact rfl; exact rfl) | ((with_reducible apply RS.store); exact rfl; exact rfl; exact rfl; exact rfl; exact rfl; exact Nat.le_of_ble_eq_true rfl; exact rfl; exact rfl; exact rfl) | ((with_reducible apply RS.alloc); exact rfl; exact rfl) | ((with_reducible apply RS.nil); exact mixed; kernel_rfl) | ((with_reducible apply W.seq)) | ((with_reducible apply W.reg); kernel_rfl) | ((with_reducible apply W.block)) | ((with_reducible apply W.skip)) | ((with_reducible apply W.condT); kernel_rfl; exact rfl) | ((with_reducible apply thenK_n)))
      repeat' ((first | (((with_reducible apply RS.splitD); exact rfl; exact rfl) <;> intro _) | ((((with_reducible apply RS.splitG); exact rfl; exact rfl) <;> intro _) <;> (fail_if_success (exact absurd ‹true = false› (by decide))) <;> (fail_if_success (exact absurd ‹false = true› (by decide)))) | (((with_reducible apply W.condD); exact rfl) <;> intro _) | ((((with_reducible apply W.cond); exact rfl) <;> intro _) <;> (fail_if_success (exact absurd ‹true = false› (by decide))) <;> (fail_if_success (exact absurd ‹false = true› (by decide))))) <;> repeat (first | ((with_reducible apply RS.move); exact rfl; exact rfl; exact rfl) | ((with_reducible apply RS.assign); exact rfl; exact rfl; exact rfl) | ((with_reducible apply RS.pickT); exact rfl; exact rfl; exact rfl; exact rfl) | ((with_reducible apply RS.pickF); exact rfl; exact rfl; exact rfl; exact rfl) | ((with_reducible apply RS.cmpC); exact rfl; exact rfl; exact rfl; exact rfl; exact rfl) | ((with_reducible apply RS.lenSl); exact rfl; exact rfl; exact rfl) | ((with_reducible apply RS.fieldAddr); exact rfl; exact rfl; exact rfl) | ((with_reducible apply RS.load1); exact rfl; exact rfl; exact rfl; exact rfl; exact rfl; exact rfl) | ((with_reducible apply RS.skip); exact rfl; exact rfl) | ((with_reducible apply RS.nil); exact mixed; kernel_rfl) | ((with_reducible apply W.seq)) | ((with_reducible apply W.reg); kernel_rfl) | ((with_reducible apply W.block)) | ((with_reducible apply W.ret)) | ((with_reducible apply W.skip)) | ((with_reducible apply W.condT); kernel_rfl; exact rfl) | ((with_reducible apply thenK_n)) | ((with_reducible apply thenK_r)) | ((with_reducible apply blockK_r)) | ((with_reducible apply roundK_r))))
      rotate_left 3
      · rename_i v1 v2 v3
        have hgh : lightG g = g.parts.all (fun x => decide (x.data.length ≤ 4096)) := by
          unfold lightG
          rw [decide_eq_true (by omega : g.place ≤ 4096), decide_eq_true (by omega : g.size ≤ 4096), decide_eq_true (by omega : g.parts.length ≤ 50)]
          simp
        refine W.loop (X := Nat) (fun π j => [(1, .pointer (some ⟨π 0, 0, none⟩)), (3, .int .i64 0), (37, .slice (some ⟨gb, go, none⟩) p.globals.length d2), (38, .int .i64 p.globals.length), (39, .int .i64 i), (5, .pointer (some ⟨π 1, 0, none⟩)), (58, .slice A' g.parts.length c'), (59, .int .i64 g.parts.length), (60, .int .i64 j)]) (fun _ => h) (fun π i => [(1, some ⟨⟨globC g A' c'⟩, 81⟩), (0, some ⟨⟨progC p P1 d1 (some ⟨gb, go, none⟩) d2⟩, 25⟩)]) (fun j => j ≤ g.parts.length ∧ g.parts.all (fun x => decide (x.data.length ≤ 4096)) = (g.parts.drop j).all (fun x => decide (x.data.length ≤ 4096))) (fun j => g.parts.length - j) [0, 1] 0 ⟨Nat.zero_le _, rfl⟩ (by (refine FitL.mk ?_ ?_ ?_ ?_ <;> (repeat' (first | exact trivial | exact rfl | apply And.intro)); done)) ?_
        intro π j hJ
        obtain ⟨hj, hJ⟩ := hJ
        dsimp only at hj hJ ⊢
        by_cases hlj : j < g.parts.length
        · obtain ⟨x, hx⟩ : ∃ x, g.parts[j]? = some x := ⟨_, List.getElem?_eq_getElem hlj⟩
          obtain ⟨xb, xo, xcs, xe, rfl, hQ, hQl, hQv⟩ := hGs.get j x hx
          have hQn := hd _ _ hQ
          obtain ⟨A'', c'', hQv, hQs⟩ := hQv
          have hxn := (hgm.parts x (List.mem_of_getElem? hx)).ndata
          rw [all_drop hx] at hJ
          repeat (first | ((with_reducible apply RS.indexAddrS); exact rfl; exact rfl; exact rfl; exact rfl; exact rfl; omega) | ((with_reducible apply RS.loadNB); exact rfl; exact rfl; exact rfl; exact hQ; exact hQn; exact hQl; exact hQv) | ((with_reducible apply RS.cmpT); exact rfl; exact rfl; exact rfl; exact rfl; (simp only [cmpP]; omega)) | ((with_reducible apply RS.cmpC); exact rfl; exact rfl; exact rfl; exact rfl; exact rfl) | ((with_reducible apply RS.lenSl); exact rfl; exact rfl; exact rfl) | ((with_reducible apply RS.fieldAddr); exact rfl; exact rfl; exact rfl) | ((with_reducible apply RS.load1); exact rfl; exact rfl; exact rfl; exact rfl; exact rfl; exact rfl) | ((with_reducible apply RS.store); exact rfl; exact rfl; exact rfl; exact rfl; exact rfl; exact Nat.le_of_ble_eq_true rfl; exact rfl; exact rfl; exact rfl) | ((with_reducible apply RS.alloc); exact rfl; exact rfl) | ((with_reducible apply RS.nil); exact mixed; kernel_rfl) | ((with_reducible apply W.seq)) | ((with_reducible apply W.reg); kernel_rfl) | ((with_reducible apply W.block)) | ((with_reducible apply W.skip)) | ((with_reducible apply W.condT); kernel_rfl; exact rfl) | ((with_reducible apply thenK_n)))
          repeat' ((first | (((with_reducible apply RS.splitD); exact rfl; exact rfl) <;> intro _) | ((((with_reducible apply RS.splitG); exact rfl; exact rfl) <;> intro _) <;> (fail_if_success (exact absurd ‹true = false› (by decide))) <;> (fail_if_success (exact absurd ‹false = true› (by decide)))) | (((with_reducible apply W.condD); exact rfl) <;> intro _) | ((((with_reducible apply W.cond); exact rfl) <;> intro _) <;> (fail_if_success (exact absurd ‹true = false› (by decide))) <;> (fail_if_success (exact absurd ‹false = true› (by decide))))) <;> repeat (first | ((with_reducible apply RS.move); exact rfl; exact rfl; exact rfl) | ((with_reducible apply RS.assign); exact rfl; exact rfl; exact rfl) | ((with_reducible apply RS.add1); exact rfl; exact rfl; exact rfl; exact rfl; omega) | ((with_reducible apply RS.nil); exact mixed; kernel_rfl) | ((with_reducible apply W.seq)) | ((with_reducible apply W.reg); kernel_rfl) | ((with_reducible apply W.ret)) | ((with_reducible apply W.skip)) | ((with_reducible apply thenK_n)) | ((with_reducible apply thenK_r)) | ((with_reducible apply blockK_n)) | ((with_reducible apply blockK_r)) | ((with_reducible apply roundK_r))))
          · refine endsK_ret _ (.cons (.tmp rfl) .nil) ⟨rfl, ?_⟩
            have hz : decide (x.data.length ≤ 4096) = false := by simp; omega
            rw [hz, Bool.false_and] at hJ
            rw [hgf (hgh.trans hJ)]; rfl
          · have hz : decide (x.data.length ≤ 4096) = true := by simp; omega
            rw [hz, Bool.true_and] at hJ
            exact roundK_n (j + 1) [0, 1] rfl rfl ⟨by omega, hJ⟩ (by omega) (by (refine FitL.mk ?_ ?_ ?_ ?_ <;> (repeat' (first | exact trivial | exact rfl | apply And.intro)); done))
        · repeat (first | ((with_reducible apply RS.move); exact rfl; exact rfl; exact rfl) | ((with_reducible apply RS.cmpF); exact rfl; exact rfl; exact rfl; exact rfl; (simp only [cmpN]; omega)) | ((with_reducible apply RS.add1); exact rfl; exact rfl; exact rfl; exact rfl; omega) | ((with_reducible apply RS.nil); exact mixed; kernel_rfl) | ((with_reducible apply W.seq)) | ((with_reducible apply W.reg); kernel_rfl) | ((with_reducible apply W.exit)) | ((with_reducible apply W.condF); kernel_rfl; exact rfl) | ((with_reducible apply thenK_n)) | ((with_reducible apply thenK_e)) | ((with_reducible apply blockK_n)) | ((with_reducible apply blockK_hit); exact rfl) | ((with_reducible apply roundK_e)))
          rw [List.drop_eq_nil_of_le (by omega)] at hJ
          have hz : lightG g = true := by rw [hgh, hJ]; rfl
          rw [hz, Bool.true_and] at hI
          exact roundK_n (i + 1) [0] rfl rfl ⟨by omega, hI⟩ (by omega) (by (refine FitL.mk ?_ ?_ ?_ ?_ <;> (repeat' (first | exact trivial | exact rfl | apply And.intro)); done))
      · refine endsK_ret _ (.cons (.tmp rfl) .nil) ⟨rfl, ?_⟩
        rw [hgf (by unfold lightG; simp; omega)]; rfl
      · refine endsK_ret _ (.cons (.tmp rfl) .nil) ⟨rfl, ?_⟩
        rw [hgf (by unfold lightG; simp; omega)]; rfl
      · refine endsK_ret _ (.cons (.tmp rfl) .nil) ⟨rfl, ?_⟩
        rw [hgf (by unfold lightG; simp; omega)]; rfl
    · repeat (first | ((with_reducible apply RS.move); exact rfl; exact rfl; exact rfl) | ((with_reducible apply RS.cmpF); exact rfl; exact rfl; exact rfl; exact rfl; (simp only [cmpN]; omega)) | ((with_reducible apply RS.lenSl); exact rfl; exact rfl; exact rfl) | ((with_reducible apply RS.fieldAddr); exact rfl; exact rfl; exact rfl) | ((with_reducible apply RS.load1); exact rfl; exact rfl; exact rfl; exact rfl; exact rfl; exact rfl) | ((with_reducible apply RS.nil); exact mixed; kernel_rfl) | ((with_reducible apply W.seq)) | ((with_reducible apply W.reg); kernel_rfl) | ((with_reducible apply W.block)) | ((with_reducible apply W.exit)) | ((with_reducible apply W.condF); kernel_rfl; exact rfl) | ((with_reducible apply thenK_n)) | ((with_reducible apply thenK_e)) | ((with_reducible apply blockK_hit); exact rfl) | ((with_reducible apply roundK_e)))
      rw [List.drop_eq_nil_of_le (by omega)] at hI
      have hres := hhead hI
      refine W.loop (X := Nat × Nat) (fun π y => [(1, .pointer (some ⟨π 0, 0, none⟩)), (3, .int .i64 y.2), (71, .slice P1 p.funcs.length d1), (72, .int .i64 p.funcs.length), (73, .int .i64 y.1)]) (fun _ => h) (fun π i => [(0, some ⟨⟨progC p P1 d1 P2 d2⟩, 25⟩)]) (fun y => y.1 ≤ p.funcs.length ∧ y.2 ≤ 4000 ∧ lightP p = (lightF (p.funcs.drop y.1) y.2).isSome) (fun y => p.funcs.length - y.1) [0] (0, 0) ⟨Nat.zero_le _, Nat.zero_le _, hres⟩ (by (refine FitL.mk ?_ ?_ ?_ ?_ <;> (repeat' (first | exact trivial | exact rfl | apply And.intro)); done)) ?_
      intro π y hI
      obtain ⟨i, n⟩ := y
      obtain ⟨hi, hn, hI⟩ := hI
      dsimp only at hi hn hI ⊢
      by_cases hlt : i < p.funcs.length
      · obtain ⟨f, hf⟩ : ∃ g, p.funcs[i]? = some g := ⟨_, List.getElem?_eq_getElem hlt⟩
        obtain ⟨fb, fo, fcs, fe, rfl, hF, hFl, hFv⟩ := hfs.get i f hf
        have hFn := hd _ _ hF
        obtain ⟨F1, c1, F2, c2, F3, c3, hFv, hFsl, hFbl⟩ := hFv
        have hfm := hok.funcs f (List.mem_of_getElem? hf)
        have hnb := hfm.nblocks
        have hns := hfm.nslots
        rw [drop_get hf] at hI
        repeat (first | ((with_reducible apply RS.indexAddrS); exact rfl; exact rfl; exact rfl; exact rfl; exact rfl; omega) | ((with_reducible apply RS.loadNB); exact rfl; exact rfl; exact rfl; exact hF; exact hFn; exact hFl; exact hFv) | ((with_reducible apply RS.move); exact rfl; exact rfl; exact rfl) | ((with_reducible apply RS.assign); exact rfl; exact rfl; exact rfl) | ((with_reducible apply RS.cmpT); exact rfl; exact rfl; exact rfl; exact rfl; (simp only [cmpP]; omega)) | ((with_reducible apply RS.cmpC); exact rfl; exact rfl; exact rfl; exact rfl; exact rfl) | ((with_reducible apply RS.binFit); exact rfl; exact rfl; exact rfl; exact rfl; exact rfl; omega) | ((with_reducible apply RS.lenSl); exact rfl; exact rfl; exact rfl) | ((with_reducible apply RS.fieldAddr); exact rfl; exact rfl; exact rfl) | ((with_reducible apply RS.load1); exact rfl; exact rfl; exact rfl; exact rfl; exact rfl; exact rfl) | ((with_reducible apply RS.store); exact rfl; exact rfl; exact rfl; exact rfl; exact rfl; exact Nat.le_of_ble_eq_true rfl; exact rfl; exact rfl; exact rfl) | ((with_reducible apply RS.alloc); exact rfl; exact rfl) | ((with_reducible apply RS.nil); exact mixed; kernel_rfl) | ((with_reducible apply W.seq)) | ((with_reducible apply W.reg); kernel_rfl) | ((with_reducible apply W.block)) | ((with_reducible apply W.skip)) | ((with_reducible apply W.condT); kernel_rfl; exact rfl) | ((with_reducible apply thenK_n)))
        repeat' ((first | (((with_reducible apply RS.splitD); exact rfl; exact rfl) <;> intro _) | ((((with_reducible apply RS.splitG); exact rfl; exact rfl) <;> intro _) <;> (fail_if_success (exact absurd ‹true = false› (by decide))) <;> (fail_if_success (exact absurd ‹false = true› (by decide)))) | (((with_reducible apply W.condD); exact rfl) <;> intro _) | ((((with_reducible apply W.cond); exact rfl) <;> intro _) <;> (fail_if_success (exact absurd ‹true = false› (by decide))) <;> (fail_if_success (exact absurd ‹false = true› (by decide))))) <;> repeat (first | ((with_reducible apply RS.move); exact rfl; exact rfl; exact rfl) | ((with_reducible apply RS.assign); exact rfl; exact rfl; exact rfl) | ((with_reducible apply RS.pickT); exact rfl; exact rfl; exact rfl; exact rfl) | ((with_reducible apply RS.pickF); exact rfl; exact rfl; exact rfl; exact rfl) | ((with_reducible apply RS.cmpC); exact rfl; exact rfl; exact rfl; exact rfl; exact rfl) | ((with_reducible apply RS.lenSl); exact rfl; exact rfl; exact rfl) | ((with_reducible apply RS.fieldAddr); exact rfl; exact rfl; exact rfl) | ((with_reducible apply RS.load1); exact rfl; exact rfl; exact rfl; exact rfl; exact rfl; exact rfl) | ((with_reducible apply RS.skip); exact rfl; exact rfl) | ((with_reducible apply RS.nil); exact mixed; kernel_rfl) | ((with_reducible apply W.seq)) | ((with_reducible apply W.reg); kernel_rfl) | ((with_reducible apply W.block)) | ((with_reducible apply W.ret)) | ((with_reducible apply W.skip)) | ((with_reducible apply W.condT); kernel_rfl; exact rfl) | ((with_reducible apply thenK_n)) | ((with_reducible apply thenK_r)) | ((with_reducible apply blockK_r)) | ((with_reducible apply roundK_r))))
        rotate_left 3
        · rename_i w1 w2 w3
          have hm : n + (1 + f.blocks.length + f.slots.length) ≤ 2000 := by omega
          have hcv : (n : Int) + (1 + (f.blocks.length : Int) + (f.slots.length : Int)) = ((n + (1 + f.blocks.length + f.slots.length) : Nat) : Int) := by omega
          have hfy : lightS f = true → lightP p = ((lightB f.blocks (n + (1 + f.blocks.length + f.slots.length))).bind (lightF (p.funcs.drop (i + 1)))).isSome := fun hz => by rw [hI]; show (if _ then _ else _ : Option Nat).isSome = _; rw [if_pos ⟨hm, by omega, by omega, hz⟩]
          have hfn : lightS f = false → lightP p = false := fun hz => by rw [hI]; show (if _ then _ else _ : Option Nat).isSome = _; rw [if_neg (fun hh => by rw [hh.2.2.2] at hz; cases hz)]; rfl
          rw [hcv]
          clear hI hcv
          generalize hM : n + (1 + f.blocks.length + f.slots.length) = m at *
          refine W.loop (X := Nat) (fun π j => [(1, .pointer (some ⟨π 0, 0, none⟩)), (3, .int .i64 m), (71, .slice (some ⟨fb, fo, none⟩) p.funcs.length d1), (72, .int .i64 p.funcs.length), (73, .int .i64 i), (9, .pointer (some ⟨π 1, 0, none⟩)), (100, .slice F2 f.slots.length c2), (101, .int .i64 f.slots.length), (102, .int .i64 j)]) (fun _ => h) (fun π i => [(1, some ⟨⟨funcC f F1 c1 F2 c2 F3 c3⟩, 35⟩), (0, some ⟨⟨progC p (some ⟨fb, fo, none⟩) d1 P2 d2⟩, 25⟩)]) (fun j => j ≤ f.slots.length ∧ lightS f = (f.slots.drop j).all (fun s => decide (0 ≤ s) && decide (s ≤ 1000) && decide (f.slots.length ≤ 4))) (fun j => f.slots.length - j) [0, 1] 0 ⟨Nat.zero_le _, rfl⟩ (by (refine FitL.mk ?_ ?_ ?_ ?_ <;> (repeat' (first | exact trivial | exact rfl | apply And.intro)); done)) ?_
          intro π j hJ
          obtain ⟨hj, hJ⟩ := hJ
          dsimp only at hj hJ ⊢
          by_cases hlj : j < f.slots.length
          · obtain ⟨s, hs⟩ : ∃ x, f.slots[j]? = some x := ⟨_, List.getElem?_eq_getElem hlj⟩
            obtain ⟨zb, zo, zcs, ze, rfl, hZ, hZl, hZv⟩ := hFsl.get j s hs
            have hZn := hd _ _ hZ
            have hZc := take_nth (j := 0) hZv rfl
            rw [all_drop hs] at hJ
            repeat (first | ((with_reducible apply RS.indexAddrS); exact rfl; exact rfl; exact rfl; exact rfl; exact rfl; omega) | ((with_reducible apply RS.load1B); exact rfl; exact rfl; exact rfl; exact hZ; exact hZn; exact hZc) | ((with_reducible apply RS.move); exact rfl; exact rfl; exact rfl) | ((with_reducible apply RS.assign); exact rfl; exact rfl; exact rfl) | ((with_reducible apply RS.cmpT); exact rfl; exact rfl; exact rfl; exact rfl; (simp only [cmpP]; omega)) | ((with_reducible apply RS.cmpC); exact rfl; exact rfl; exact rfl; exact rfl; exact rfl) | ((with_reducible apply RS.nil); exact mixed; kernel_rfl) | ((with_reducible apply W.seq)) | ((with_reducible apply W.reg); kernel_rfl) | ((with_reducible apply W.block)) | ((with_reducible apply W.skip)) | ((with_reducible apply W.condT); kernel_rfl; exact rfl) | ((with_reducible apply thenK_n)))
            repeat' ((first | (((with_reducible apply RS.splitD); exact rfl; exact rfl) <;> intro _) | ((((with_reducible apply RS.splitG); exact rfl; exact rfl) <;> intro _) <;> (fail_if_success (exact absurd ‹true = false› (by decide))) <;> (fail_if_success (exact absurd ‹false = true› (by decide)))) | (((with_reducible apply W.condD); exact rfl) <;> intro _) | ((((with_reducible apply W.cond); exact rfl) <;> intro _) <;> (fail_if_success (exact absurd ‹true = false› (by decide))) <;> (fail_if_success (exact absurd ‹false = true› (by decide))))) <;> repeat (first | ((with_reducible apply RS.move); exact rfl; exact rfl; exact rfl) | ((with_reducible apply RS.assign); exact rfl; exact rfl; exact rfl) | ((with_reducible apply RS.pickT); exact rfl; exact rfl; exact rfl; exact rfl) | ((with_reducible apply RS.pickF); exact rfl; exact rfl; exact rfl; exact rfl) | ((with_reducible apply RS.cmpC); exact rfl; exact rfl; exact rfl; exact rfl; exact rfl) | ((with_reducible apply RS.add1); exact rfl; exact rfl; exact rfl; exact rfl; omega) | ((with_reducible apply RS.lenSl); exact rfl; exact rfl; exact rfl) | ((with_reducible apply RS.fieldAddr); exact rfl; exact rfl; exact rfl) | ((with_reducible apply RS.load1); exact rfl; exact rfl; exact rfl; exact rfl; exact rfl; exact rfl) | ((with_reducible apply RS.skip); exact rfl; exact rfl) | ((with_reducible apply RS.nil); exact mixed; kernel_rfl) | ((with_reducible apply W.seq)) | ((with_reducible apply W.reg); kernel_rfl) | ((with_reducible apply W.ret)) | ((with_reducible apply W.skip)) | ((with_reducible apply W.condT); kernel_rfl; exact rfl) | ((with_reducible apply thenK_n)) | ((with_reducible apply thenK_r)) | ((with_reducible apply blockK_n)) | ((with_reducible apply blockK_r)) | ((with_reducible apply roundK_r))))
            rotate_left 3
            · rw [show (decide (0 ≤ s) && decide (s ≤ 1000) && decide (f.slots.length ≤ 4)) = true by simp; omega, Bool.true_and] at hJ
              exact roundK_n (j + 1) [0, 1] rfl rfl ⟨by omega, hJ⟩ (by omega) (by (refine FitL.mk ?_ ?_ ?_ ?_ <;> (repeat' (first | exact trivial | exact rfl | apply And.intro)); done))
            all_goals refine endsK_ret _ (.cons (.tmp rfl) .nil) ⟨rfl, ?_⟩
            all_goals rw [show (decide (0 ≤ s) && decide (s ≤ 1000) && decide (f.slots.length ≤ 4)) = false by simp; omega, Bool.false_and] at hJ
            all_goals rw [hfn hJ]; rfl
          · repeat (first | ((with_reducible apply RS.move); exact rfl; exact rfl; exact rfl) | ((with_reducible apply RS.cmpF); exact rfl; exact rfl; exact rfl; exact rfl; (simp only [cmpN]; omega)) | ((with_reducible apply RS.lenSl); exact rfl; exact rfl; exact rfl) | ((with_reducible apply RS.fieldAddr); exact rfl; exact rfl; exact rfl) | ((with_reducible apply RS.load1); exact rfl; exact rfl; exact rfl; exact rfl; exact rfl; exact rfl) | ((with_reducible apply RS.nil); exact mixed; kernel_rfl) | ((with_reducible apply W.seq)) | ((with_reducible apply W.reg); kernel_rfl) | ((with_reducible apply W.block)) | ((with_reducible apply W.exit)) | ((with_reducible apply W.condF); kernel_rfl; exact rfl) | ((with_reducible apply thenK_n)) | ((with_reducible apply thenK_e)) | ((with_reducible apply blockK_hit); exact rfl) | ((with_reducible apply roundK_e)))
            rw [List.drop_eq_nil_of_le (by omega)] at hJ
            refine W.loop (X := Nat × Nat) (fun π y => [(1, .pointer (some ⟨π 0, 0, none⟩)), (3, .int .i64 y.2), (71, .slice (some ⟨fb, fo, none⟩) p.funcs.length d1), (72, .int .i64 p.funcs.length), (73, .int .i64 i), (9, .pointer (some ⟨π 1, 0, none⟩)), (120, .slice F3 f.blocks.length c3), (121, .int .i64 f.blocks.length), (122, .int .i64 y.1)]) (fun _ => h) (fun π i => [(1, some ⟨⟨funcC f F1 c1 F2 c2 F3 c3⟩, 35⟩), (0, some ⟨⟨progC p (some ⟨fb, fo, none⟩) d1 P2 d2⟩, 25⟩)]) (fun y => y.1 ≤ f.blocks.length ∧ y.2 ≤ 4000 ∧ lightP p = ((lightB (f.blocks.drop y.1) y.2).bind (lightF (p.funcs.drop (i + 1)))).isSome) (fun y => f.blocks.length - y.1) [0, 1] (0, m) ⟨Nat.zero_le _, by omega, hfy hJ⟩ (by (refine FitL.mk ?_ ?_ ?_ ?_ <;> (repeat' (first | exact trivial | exact rfl | apply And.intro)); done)) ?_
            clear hj hJ hlj hfy hfn
            intro π y hJ
            obtain ⟨j, m⟩ := y
            obtain ⟨hj, hm4, hJ⟩ := hJ
            dsimp only at hj hm4 hJ ⊢
            by_cases hlj : j < f.blocks.length
            · obtain ⟨b, hb⟩ : ∃ b, f.blocks[j]? = some b := ⟨_, List.getElem?_eq_getElem hlj⟩
              obtain ⟨bb, bo, bcs, be, rfl, hB, hBl, hBv⟩ := hFbl.get j b hb
              have hBn := hd _ _ hB
              obtain ⟨A', c', hBv, hBi⟩ := hBv
              have hbm := hfm.blocks b (List.mem_of_getElem? hb)
              have hni := hbm.n
              rw [drop_get hb] at hJ
              repeat (first | ((with_reducible apply RS.indexAddrS); exact rfl; exact rfl; exact rfl; exact rfl; exact rfl; omega) | ((with_reducible apply RS.loadNB); exact rfl; exact rfl; exact rfl; exact hB; exact hBn; exact hBl; exact hBv) | ((with_reducible apply RS.move); exact rfl; exact rfl; exact rfl) | ((with_reducible apply RS.assign); exact rfl; exact rfl; exact rfl) | ((with_reducible apply RS.cmpT); exact rfl; exact rfl; exact rfl; exact rfl; (simp only [cmpP]; omega)) | ((with_reducible apply RS.cmpC); exact rfl; exact rfl; exact rfl; exact rfl; exact rfl) | ((with_reducible apply RS.addNat); exact rfl; exact rfl; exact rfl; exact rfl; omega) | ((with_reducible apply RS.lenSl); exact rfl; exact rfl; exact rfl) | ((with_reducible apply RS.fieldAddr); exact rfl; exact rfl; exact rfl) | ((with_reducible apply RS.load1); exact rfl; exact rfl; exact rfl; exact rfl; exact rfl; exact rfl) | ((with_reducible apply RS.store); exact rfl; exact rfl; exact rfl; exact rfl; exact rfl; exact Nat.le_of_ble_eq_true rfl; exact rfl; exact rfl; exact rfl) | ((with_reducible apply RS.alloc); exact rfl; exact rfl) | ((with_reducible apply RS.nil); exact mixed; kernel_rfl) | ((with_reducible apply W.seq)) | ((with_reducible apply W.reg); kernel_rfl) | ((with_reducible apply W.block)) | ((with_reducible apply W.skip)) | ((with_reducible apply W.condT); kernel_rfl; exact rfl) | ((with_reducible apply thenK_n)))
              repeat' ((first | (((with_reducible apply RS.splitD); exact rfl; exact rfl) <;> intro _) | ((((with_reducible apply RS.splitG); exact rfl; exact rfl) <;> intro _) <;> (fail_if_success (exact absurd ‹true = false› (by decide))) <;> (fail_if_success (exact absurd ‹false = true› (by decide)))) | (((with_reducible apply W.condD); exact rfl) <;> intro _) | ((((with_reducible apply W.cond); exact rfl) <;> intro _) <;> (fail_if_success (exact absurd ‹true = false› (by decide))) <;> (fail_if_success (exact absurd ‹false = true› (by decide))))) <;> repeat (first | ((with_reducible apply RS.move); exact rfl; exact rfl; exact rfl) | ((with_reducible apply RS.assign); exact rfl; exact rfl; exact rfl) | ((with_reducible apply RS.lenSl); exact rfl; exact rfl; exact rfl) | ((with_reducible apply RS.fieldAddr); exact rfl; exact rfl; exact rfl) | ((with_reducible apply RS.load1); exact rfl; exact rfl; exact rfl; exact rfl; exact rfl; exact rfl) | ((with_reducible apply RS.nil); exact mixed; kernel_rfl) | ((with_reducible apply W.seq)) | ((with_reducible apply W.reg); kernel_rfl) | ((with_reducible apply W.block)) | ((with_reducible apply W.ret)) | ((with_reducible apply W.skip)) | ((with_reducible apply thenK_n)) | ((with_reducible apply thenK_r)) | ((with_reducible apply blockK_r)) | ((with_reducible apply roundK_r))))
              · refine endsK_ret _ (.cons (.tmp rfl) .nil) ⟨rfl, ?_⟩
                rw [show lightP p = false by rw [hJ]; show (Option.bind (if _ then _ else _ : Option Nat) _).isSome = _; rw [if_neg (fun hh => by omega)]; rfl]; rfl
              · rename_i w4
                have hm2 : m + b.ins.length ≤ 2000 := by omega
                have hky : lightP p = (((lightI b.ins (m + b.ins.length)).bind (lightB (f.blocks.drop (j + 1)))).bind (lightF (p.funcs.drop (i + 1)))).isSome := by rw [hJ]; show (Option.bind (if _ then _ else _ : Option Nat) _).isSome = _; rw [if_pos hm2]
                refine W.loop (X := Nat × Nat) (fun π y => [(1, .pointer (some ⟨π 0, 0, none⟩)), (3, .int .i64 y.2), (71, .slice (some ⟨fb, fo, none⟩) p.funcs.length d1), (72, .int .i64 p.funcs.length), (73, .int .i64 i), (9, .pointer (some ⟨π 1, 0, none⟩)), (120, .slice (some ⟨bb, bo, none⟩) f.blocks.length c3), (121, .int .i64 f.blocks.length), (122, .int .i64 j), (13, .pointer (some ⟨π 2, 0, none⟩)), (134, .slice A' b.ins.length c'), (135, .int .i64 b.ins.length), (136, .int .i64 y.1)]) (fun _ => h) (fun π i => [(2, some ⟨⟨blockC b A' c'⟩, 47⟩), (1, some ⟨⟨funcC f F1 c1 F2 c2 (some ⟨bb, bo, none⟩) c3⟩, 35⟩), (0, some ⟨⟨progC p (some ⟨fb, fo, none⟩) d1 P2 d2⟩, 25⟩)]) (fun y => y.1 ≤ b.ins.length ∧ y.2 ≤ 4000 ∧ lightP p = (((lightI (b.ins.drop y.1) y.2).bind (lightB (f.blocks.drop (j + 1)))).bind (lightF (p.funcs.drop (i + 1)))).isSome) (fun y => b.ins.length - y.1) [0, 1, 2] (0, m + b.ins.length) ⟨Nat.zero_le _, by omega, hky⟩ (by (refine FitL.mk ?_ ?_ ?_ ?_ <;> (repeat' (first | exact trivial | exact rfl | apply And.intro)); done)) ?_
                clear hJ w4 hm2 hky hm4
                intro π y hK
                obtain ⟨k, m⟩ := y
                obtain ⟨hk, hm4, hK⟩ := hK
                dsimp only at hk hm4 hK ⊢
                by_cases hlk : k < b.ins.length
                · obtain ⟨x, hx⟩ : ∃ x, b.ins[k]? = some x := ⟨_, List.getElem?_eq_getElem hlk⟩
                  obtain ⟨xb, xo, xcs, xe, rfl, hX, hXl, hXv⟩ := hBi.get k x hx
                  have hXn := hd _ _ hX
                  obtain ⟨A'', c'', hXv, hXs⟩ := hXv
                  have hxn := (hbm.ins x (List.mem_of_getElem? hx)).n
                  rw [drop_get hx] at hK
                  repeat (first | ((with_reducible apply RS.indexAddrS); exact rfl; exact rfl; exact rfl; exact rfl; exact rfl; omega) | ((with_reducible apply RS.loadNB); exact rfl; exact rfl; exact rfl; exact hX; exact hXn; exact hXl; exact hXv) | ((with_reducible apply RS.move); exact rfl; exact rfl; exact rfl) | ((with_reducible apply RS.assign); exact rfl; exact rfl; exact rfl) | ((with_reducible apply RS.cmpT); exact rfl; exact rfl; exact rfl; exact rfl; (simp only [cmpP]; omega)) | ((with_reducible apply RS.cmpC); exact rfl; exact rfl; exact rfl; exact rfl; exact rfl) | ((with_reducible apply RS.addNat); exact rfl; exact rfl; exact rfl; exact rfl; omega) | ((with_reducible apply RS.lenSl); exact rfl; exact rfl; exact rfl) | ((with_reducible apply RS.fieldAddr); exact rfl; exact rfl; exact rfl) | ((with_reducible apply RS.load1); exact rfl; exact rfl; exact rfl; exact rfl; exact rfl; exact rfl) | ((with_reducible apply RS.store); exact rfl; exact rfl; exact rfl; exact rfl; exact rfl; exact Nat.le_of_ble_eq_true rfl; exact rfl; exact rfl; exact rfl) | ((with_reducible apply RS.alloc); exact rfl; exact rfl) | ((with_reducible apply RS.nil); exact mixed; kernel_rfl) | ((with_reducible apply W.seq)) | ((with_reducible apply W.reg); kernel_rfl) | ((with_reducible apply W.block)) | ((with_reducible apply W.skip)) | ((with_reducible apply W.condT); kernel_rfl; exact rfl) | ((with_reducible apply thenK_n)))
                  repeat' ((first | (((with_reducible apply RS.splitD); exact rfl; exact rfl) <;> intro _) | ((((with_reducible apply RS.splitG); exact rfl; exact rfl) <;> intro _) <;> (fail_if_success (exact absurd ‹true = false› (by decide))) <;> (fail_if_success (exact absurd ‹false = true› (by decide)))) | (((with_reducible apply W.condD); exact rfl) <;> intro _) | ((((with_reducible apply W.cond); exact rfl) <;> intro _) <;> (fail_if_success (exact absurd ‹true = false› (by decide))) <;> (fail_if_success (exact absurd ‹false = true› (by decide))))) <;> repeat (first | ((with_reducible apply RS.move); exact rfl; exact rfl; exact rfl) | ((with_reducible apply RS.assign); exact rfl; exact rfl; exact rfl) | ((with_reducible apply RS.pickT); exact rfl; exact rfl; exact rfl; exact rfl) | ((with_reducible apply RS.pickF); exact rfl; exact rfl; exact rfl; exact rfl) | ((with_reducible apply RS.cmpC); exact rfl; exact rfl; exact rfl; exact rfl; exact rfl) | ((with_reducible apply RS.add1); exact rfl; exact rfl; exact rfl; exact rfl; omega) | ((with_reducible apply RS.fieldAddr); exact rfl; exact rfl; exact rfl) | ((with_reducible apply RS.load1); exact rfl; exact rfl; exact rfl; exact rfl; exact rfl; exact rfl) | ((with_reducible apply RS.skip); exact rfl; exact rfl) | ((with_reducible apply RS.nil); exact mixed; kernel_rfl) | ((with_reducible apply W.seq)) | ((with_reducible apply W.reg); kernel_rfl) | ((with_reducible apply W.ret)) | ((with_reducible apply W.skip)) | ((with_reducible apply W.condT); kernel_rfl; exact rfl) | ((with_reducible apply thenK_n)) | ((with_reducible apply thenK_r)) | ((with_reducible apply blockK_n)) | ((with_reducible apply blockK_r)) | ((with_reducible apply roundK_r))))
                  rotate_left 3
                  · exact roundK_n (k + 1, m + x.args.length) [0, 1, 2] rfl rfl ⟨by omega, by dsimp only; omega, hK.trans (by show (Option.bind (Option.bind (if _ then _ else _ : Option Nat) _) _).isSome = _; rw [if_pos ⟨by omega, by omega, by omega⟩])⟩ (by omega) (by (refine FitL.mk ?_ ?_ ?_ ?_ <;> (repeat' (first | exact trivial | exact rfl | apply And.intro)); done))
                  all_goals refine endsK_ret _ (.cons (.tmp rfl) .nil) ⟨rfl, ?_⟩
                  all_goals rw [show lightP p = false by rw [hK]; show (Option.bind (Option.bind (if _ then _ else _ : Option Nat) _) _).isSome = _; rw [if_neg (fun hh => by omega)]; rfl]; rfl
                · repeat (first | ((with_reducible apply RS.move); exact rfl; exact rfl; exact rfl) | ((with_reducible apply RS.cmpF); exact rfl; exact rfl; exact rfl; exact rfl; (simp only [cmpN]; omega)) | ((with_reducible apply RS.add1); exact rfl; exact rfl; exact rfl; exact rfl; omega) | ((with_reducible apply RS.nil); exact mixed; kernel_rfl) | ((with_reducible apply W.seq)) | ((with_reducible apply W.reg); kernel_rfl) | ((with_reducible apply W.exit)) | ((with_reducible apply W.condF); kernel_rfl; exact rfl) | ((with_reducible apply thenK_n)) | ((with_reducible apply thenK_e)) | ((with_reducible apply blockK_n)) | ((with_reducible apply blockK_hit); exact rfl) | ((with_reducible apply roundK_e)))
                  rw [List.drop_eq_nil_of_le (by omega)] at hK
                  exact roundK_n (j + 1, m) [0, 1] rfl rfl ⟨by omega, hm4, hK⟩ (by omega) (by (refine FitL.mk ?_ ?_ ?_ ?_ <;> (repeat' (first | exact trivial | exact rfl | apply And.intro)); done))
            · repeat (first | ((with_reducible apply RS.move); exact rfl; exact rfl; exact rfl) | ((with_reducible apply RS.cmpF); exact rfl; exact rfl; exact rfl; exact rfl; (simp only [cmpN]; omega)) | ((with_reducible apply RS.add1); exact rfl; exact rfl; exact rfl; exact rfl; omega) | ((with_reducible apply RS.nil); exact mixed; kernel_rfl) | ((with_reducible apply W.seq)) | ((with_reducible apply W.reg); kernel_rfl) | ((with_reducible apply W.exit)) | ((with_reducible apply W.condF); kernel_rfl; exact rfl) | ((with_reducible apply thenK_n)) | ((with_reducible apply thenK_e)) | ((with_reducible apply blockK_n)) | ((with_reducible apply blockK_hit); exact rfl) | ((with_reducible apply roundK_e)))
              rw [List.drop_eq_nil_of_le (by omega)] at hJ
              exact roundK_n (i + 1, m) [0] rfl rfl ⟨by omega, hm4, hJ⟩ (by omega) (by (refine FitL.mk ?_ ?_ ?_ ?_ <;> (repeat' (first | exact trivial | exact rfl | apply And.intro)); done))
        · refine endsK_ret _ (.cons (.tmp rfl) .nil) ⟨rfl, ?_⟩
          rw [show lightP p = false by rw [hI]; show (if _ then _ else _ : Option Nat).isSome = _; rw [if_neg (fun hh => by omega)]; rfl]; rfl
        · refine endsK_ret _ (.cons (.tmp rfl) .nil) ⟨rfl, ?_⟩
          rw [show lightP p = false by rw [hI]; show (if _ then _ else _ : Option Nat).isSome = _; rw [if_neg (fun hh => by omega)]; rfl]; rfl
        · refine endsK_ret _ (.cons (.tmp rfl) .nil) ⟨rfl, ?_⟩
          rw [show lightP p = false by rw [hI]; show (if _ then _ else _ : Option Nat).isSome = _; rw [if_neg (fun hh => by omega)]; rfl]; rfl
      · repeat (first | ((with_reducible apply RS.assign); exact rfl; exact rfl; exact rfl) | ((with_reducible apply RS.cmpF); exact rfl; exact rfl; exact rfl; exact rfl; (simp only [cmpN]; omega)) | ((with_reducible apply RS.nil); exact mixed; kernel_rfl) | ((with_reducible apply W.seq)) | ((with_reducible apply W.reg); kernel_rfl) | ((with_reducible apply W.exit)) | ((with_reducible apply W.ret)) | ((with_reducible apply W.condF); kernel_rfl; exact rfl) | ((with_reducible apply thenK_n)) | ((with_reducible apply thenK_e)) | ((with_reducible apply blockK_hit); exact rfl) | ((with_reducible apply roundK_e)))
        rw [List.drop_eq_nil_of_le (by omega)] at hI
        exact endsK_ret _ (.cons (.tmp rfl) .nil) ⟨rfl, by rw [hI]; rfl⟩
  all_goals refine endsK_ret _ (.cons (.tmp rfl) .nil) ⟨rfl, ?_⟩
  · rw [show lightP p = false by unfold lightP; simp; omega]; rfl
  · rw [show lightP p = false by unfold lightP; simp; omega]; rfl
  · rw [show lightP p = false by unfold lightP; simp; omega]; rfl
  · rw [show lightP p = false by unfold lightP; simp; omega]; rfl
end Go.Proofs.Ytjhloakacicdiaa
namespace Go.Proofs.Ytjhloakacicdiaa
open Go.AH
attribute [local irreducible] W RS
theorem lightI_le : ∀ {l : List InsS} {n m : Nat}, lightI l n = some m → n ≤ 4000 → n ≤ m ∧ m ≤ 4000 ∧ ∀ x ∈ l, x.args.length ≤ 4000 := by
  intro l
  induction l with
  | nil =>
    intro n m h hn
    simp only [lightI, Option.some.injEq] at h
    subst h
    exact ⟨Nat.le_refl _, hn, fun x hx => by cases hx⟩
  | cons a l ih =>
    intro n m h hn
    rw [lightI] at h
    split at h
    · rename_i hc
      obtain ⟨h1, h2, h3⟩ := ih h (by omega)
      refine ⟨by omega, h2, fun x hx => ?_⟩
      rcases List.mem_cons.1 hx with rfl | hx
      · omega
      · exact h3 x hx
    · cases h
theorem lightB_le : ∀ {l : List BlockS} {n m : Nat}, lightB l n = some m → n ≤ 4000 → n + sizeS l ≤ m ∧ m ≤ 4000 ∧ ∀ b ∈ l, ∀ x ∈ b.ins, x.args.length ≤ 4000 := by
  intro l
  induction l with
  | nil =>
    intro n m h hn
    simp only [lightB, Option.some.injEq] at h
    subst h
    exact ⟨Nat.le_refl _, hn, fun x hx => by cases hx⟩
  | cons a l ih =>
    intro n m h hn
    rw [lightB] at h
    split at h
    · rename_i hc
      obtain ⟨k, h1, h2⟩ := Option.bind_eq_some_iff.1 h
      obtain ⟨i1, i2, i3⟩ := lightI_le h1 (by omega)
      obtain ⟨j1, j2, j3⟩ := ih h2 i2
      have e : sizeS (a :: l) = a.ins.length + sizeS l := by simp [sizeS]
      refine ⟨by omega, j2, fun b hb => ?_⟩
      rcases List.mem_cons.1 hb with rfl | hb
      · exact i3
      · exact j3 b hb
    · cases h
theorem lightF_le : ∀ {l : List FuncS} {n m : Nat}, lightF l n = some m → ∀ f ∈ l, (0 ≤ f.regs ∧ f.regs ≤ 300) ∧ f.slots.length ≤ 2000 ∧ f.blocks.length ≤ 2000 ∧ sizeS f.blocks ≤ 4000 ∧ ∀ b ∈ f.blocks, ∀ x ∈ b.ins, x.args.length ≤ 4000 := by
  intro l
  induction l with
  | nil => intro n m _ f hf; cases hf
  | cons a l ih =>
    intro n m h f hf
    rw [lightF] at h
    split at h
    · rename_i hc
      obtain ⟨k, h1, h2⟩ := Option.bind_eq_some_iff.1 h
      rcases List.mem_cons.1 hf with rfl | hf
      · obtain ⟨j1, j2, j3⟩ := lightB_le h1 (by omega)
        exact ⟨⟨hc.2.1, hc.2.2.1⟩, by omega, by omega, by omega, j3⟩
      · exact ih h2 f hf
    · cases h
theorem tgt_of {f : FuncS} {b : BlockS} (h : endsS f b.term = true) : ∀ k ∈ nextS b.term, 0 ≤ k ∧ k < f.blocks.length := by
  unfold endsS at h
  simp only [Bool.and_eq_true] at h
  intro k hk
  have := List.all_eq_true.1 h.2 k hk
  simpa using this
structure LightF (p : ProgS) (f : FuncS) : Prop where
  ok : OkL f.regs f.blocks
  cp : CopyOK f
theorem reads_fit {x : InsS} (h : x.ok) : ∀ a ∈ readsS x, fitI a.reg := by
  intro a ha
  unfold readsS at ha
  have key : a = x.a ∨ a = x.b ∨ a ∈ x.args := by
    repeat' split at ha
    all_goals try simp only [List.mem_cons, List.not_mem_nil, or_false] at ha
    all_goals first
      | exact .inr (.inr ha)
      | (rcases ha with ha | ha
         · exact .inl ha
         · first | exact .inr (.inr ha) | exact .inr (.inl ha))
      | exact ha.elim
      | exact .inl ha
  rcases key with rfl | rfl | h1
  · exact h.a.1
  · exact h.b.1
  · exact (h.args a h1).1
theorem treads_fit {t : TermS} (h : t.ok) : ∀ a ∈ treadsS t, fitI a.reg := by
  intro a ha
  unfold treadsS at ha
  repeat' split at ha
  all_goals simp only [List.mem_cons, List.not_mem_nil, or_false] at ha
  · rcases ha with rfl | rfl
    · exact h.a.1
    · exact h.b.1
  · subst ha; exact h.a.1
theorem light_right {p : ProgS} (hok : p.ok) (hl : lightP p = true) (hr : rightP p = true) : ∀ f ∈ p.funcs, LightF p f := by
  intro f hf
  unfold lightP at hl
  simp only [Bool.and_eq_true, decide_eq_true_eq] at hl
  obtain ⟨_, h6⟩ := hl
  obtain ⟨m, hm⟩ := Option.isSome_iff_exists.1 h6
  obtain ⟨⟨l1, l2⟩, l3, l4, l5, l6⟩ := lightF_le hm f hf
  unfold rightP at hr
  simp only [Bool.and_eq_true, decide_eq_true_eq] at hr
  have hrf := List.all_eq_true.1 hr.2 f hf
  unfold funcOK at hrf
  simp only [Bool.and_eq_true, decide_eq_true_eq] at hrf
  obtain ⟨⟨⟨⟨⟨r1, r2⟩, r3⟩, r4⟩, r5⟩, r6⟩ := hrf
  have hfo := hok.funcs f hf
  have htg : tgtOK f.blocks := by
    intro b hb
    have := List.all_eq_true.1 r6 b hb
    unfold blockOK at this
    simp only [Bool.and_eq_true] at this
    exact tgt_of this.2
  refine ⟨⟨r5, by omega, l1, by omega, htg, by omega, fun b hb x hx => ?_, fun b hb => treads_fit ((hfo.blocks b hb).term)⟩, ⟨r5, by omega, by omega, by omega, fun b hb => ?_, fun b hb x hx => ?_⟩⟩
  · have h1 := l6 b hb x hx
    have h2 := (hfo.blocks b hb).ins x hx
    exact ⟨by omega, h2.dst, reads_fit h2⟩
  · have := sizeS_le hb
    omega
  · have h1 := l6 b hb x hx
    omega
def DeadR (f f' : FuncS) : Prop := ∃ bm, CodeS f.regs f.blocks bm ∧ f' = { f with blocks := waysS bm }
theorem func_turn : TurnEX 41 (fun f => OkL f.regs f.blocks) DeadR := by
  intro B N bb bv f A1 c1 A2 c2 sec hok hsec hN hbb hm hod hsl hr1 hr2
  obtain ⟨nm, pa, se, rg, sl, bl⟩ := f
  have hsl : sL bv = bl := hsl
  subst hsl
  have hown := hod.own hN (Nat.le_trans hN hbb) hm
  refine (func_ex B bb bv ⟨nm, pa, se, rg, sl, sL bv⟩ A1 c1 A2 c2 (capOf 9) hown hok).mono ?_
  rintro v h' s ⟨lb, kv, bm, rfl, hown', hcode, hkv, hoff, hfoot⟩
  have keep : ∀ {e : TypeId}, e ≠ 47 → ∀ i b, B.m i = some b → b.elem = e → h'.m i = some b := by
    intro e he i b hb hbe
    rw [hoff.2 i (s.dom _ _ hb) (ne_of_elem hb hm (by rw [hbe]; exact he))]
    exact hb
  have row : ∀ {α : Type} {e : TypeId} {A : Option Addr} {l : List α} {enc : α → Value}, e ≠ 47 → e ≠ 35 → e ≠ 25 → RowE B N e A l enc → RowE (cutE h') N e A l enc := by
    intro α e A l enc h1 h2 h3 hr
    exact hr.up fun i b hb hbe => cutE_in (keep h1 i b hb hbe) (by rw [hbe]; exact h2) (by rw [hbe]; exact h3)
  refine ⟨_, _, rfl, ⟨A1, c1, A2, c2, some ⟨lb, 0, none⟩, capOf 9, sec, rfl, hsec, (row (by decide) (by decide) (by decide) hr1).sl fun _ => rfl, (row (by decide) (by decide) (by decide) hr2).sl fun _ => rfl, ?_⟩, ⟨bm, hcode, rfl⟩, hoff.mono fun i _ e => by rw [e]; exact hbb⟩
  have := hown'.cut.sl
  rw [hkv] at this
  exact this
theorem prog_ex (p : ProgS) (hK : ∀ f ∈ p.funcs, OkL f.regs f.blocks ∧ CopyOK f) (hn : p.funcs.length ≤ 100000) (h : Hp) (pb : Nat) (e : TypeId) (A1 : Option Addr) (c1 : Nat) (A2 : Option Addr) (c2 : Nat) (hP : h.m pb = some ⟨⟨progC p A1 c1 A2 c2⟩, e⟩) (hs : SlAt h A1 6 p.funcs (funcRS h)) :
    EX Try.prog 25 [.pointer (some ⟨pb, 0, none⟩)] h (fun v h' => ∃ ob A c fs, v = .pointer (some ⟨ob, 0, none⟩) ∧ h'.m ob = some ⟨⟨progC { p with funcs := fs } A c A2 c2⟩, 25⟩ ∧ SlAt h' A 6 fs (funcRS h') ∧ fs.length = p.funcs.length ∧ (∀ (i : Nat) (f f' : FuncS), p.funcs[i]? = some f → fs[i]? = some f' → DeadR f f') ∧ Old h h' ∧ h.n ≤ ob) := by
  refine EX.intro (fn := Try.f25) (c := (Try.f25.body.getD .skip)) Try.func25 (by kernel_rfl) Try.ntmps25 (by kernel_rfl) fun π s0 => ?_
  conv => arg 2; whnf
  repeat (first | ((with_reducible apply RS.callEx); exact rfl; exact rfl; exact rfl; intro B1 hB1; refine ⟨_, each_ex 41 _ _ func_turn p hK hn B1 pb e A1 c1 A2 c2 (hB1.up _ _ hP) (hs.mono hB1.up fun _ _ h => funcRS_mono hB1.up h), ?_⟩; rintro v H2 π2 ⟨ob, A, c, fs, rfl, hO, hS, hl, hR, ho, hlo⟩ sH2 hle2) | ((with_reducible apply RS.move); exact rfl; exact rfl; exact rfl) | ((with_reducible apply RS.assign); exact rfl; exact rfl; exact rfl) | ((with_reducible apply RS.nil); exact mixed; kernel_rfl) | ((with_reducible apply W.seq)) | ((with_reducible apply W.reg); kernel_rfl) | ((with_reducible apply W.ret)) | ((with_reducible apply thenK_n)))
  exact endsK_ret _ (.cons (.tmp rfl) .nil) fun B' a => ⟨ob, A, c, fs, rfl, a.up _ _ hO, hS.mono a.up fun _ _ h => funcRS_mono a.up h, hl, hR, (hB1.oldH.trans ho).trans a.oldH, Nat.le_trans hB1.le hlo⟩
end Go.Proofs.Ytjhloakacicdiaa
