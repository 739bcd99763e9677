/-
  What the functions that the law reaches compute, told by plain data; it holds of programs that pass the check of right form and are light.
-/
import Derived.Carry
import Derived.ProofKit
import Derived.Test.YtjhloakacicdiaaChecked
import Derived.Test.YtjhloakacicdiaaR1
import Derived.Test.YtjhloakacicdiaaR3
import Derived.Test.YtjhloakacicdiaaS2
set_option linter.unusedVariables false
set_option linter.unusedSimpArgs false
namespace Go.AH
variable {P : Program}
section
variable {ops : Array Oper} {draw : Bool} {rs : List Rk} {l : List Oper} {fl : List (Nat × Value)} {nt : Nat} {h : SH} {K : Fr → SH → Prop} {d : Tmp} {ty : TypeId} {pos : String} {af : Array Edge} {gd : Option (Nat × Bool)}
theorem RS.nePtrNil {t e yt : TypeId} {x y : Operand} {A : Option Addr} [hu : TyU P t (.pointer e)] (hw : wantB ops ⟨some d, .binOp .neq t x y yt, ty, pos, af, gd⟩ ⟨fl, nt⟩ = some true) (hd : Nat.blt d nt = true)
    (hx : Fr.ev ⟨fl, nt⟩ x = some (.pointer A)) (hy : Fr.ev ⟨fl, nt⟩ y = some (.pointer none))
    (hk : RS P ops draw (recP h.k false [] (some []) :: rs) l ⟨(d, .bool (!A.isNone)) :: fl, nt⟩ h K) : RS P ops draw rs (⟨some d, .binOp .neq t x y yt, ty, pos, af, gd⟩ :: l) ⟨fl, nt⟩ h K :=
  RS.free hw hd (fun a g H => by
    have := TX.eqPtrNil (P := P) (o := ⟨some d, .binOp .neq t x y yt, ty, pos, af, gd⟩) (ev := a.eval) (h := H) (op := .neq) rfl rfl hu.eq (g.ev hx) (g.ev hy)
    simpa using this) (by simp) hk
end
end Go.AH
namespace Go.Proofs.Ytjhloakacicdiaa
open Go.AH
attribute [local irreducible] W RS
theorem R_tf (n : Int) (h : Hp) : TF Try.prog 20 ⟨[.int .i64 n]⟩ h (.agg ⟨[.int .i64 n, .int .i64 0]⟩) h := by
  refine TF.still (fn := Try.f20) (c := (Try.f20.body.getD .skip)) Try.func20 (by kernel_rfl) Try.ntmps20 (by kernel_rfl) (by simp) ?_
  conv => arg 2; whnf
  repeat (first | ((with_reducible apply RS.move); exact rfl; exact rfl; exact rfl) | ((with_reducible apply RS.store); exact rfl; exact rfl; exact rfl; exact rfl; exact rfl; exact Nat.le_of_ble_eq_true rfl; exact rfl; exact rfl; exact rfl) | ((with_reducible apply RS.alloc); exact rfl; exact rfl) | ((with_reducible apply RS.build); exact rfl; exact rfl; exact rfl; exact rfl) | ((with_reducible apply RS.nil); exact mixed; kernel_rfl) | ((with_reducible apply W.seq)) | ((with_reducible apply W.reg); kernel_rfl) | ((with_reducible apply W.ret)) | ((with_reducible apply thenK_n)))
  exact endsK_ret _ (.cons (.cellN rfl rfl rfl (Nat.le_of_ble_eq_true rfl)) .nil) ⟨rfl, rfl⟩
def fitT : TermS := ⟨3, 0, ⟨0, 0⟩, ⟨0, 0⟩, 0, 0⟩
def fitB : List BlockS := [⟨[⟨1, 1, ⟨-1, 5⟩, ⟨0, 0⟩, 0, false, false, 0, 0, []⟩], fitT⟩]
def fitB1 : List BlockS := [⟨[], fitT⟩]
def fitF : FuncS := ⟨⟨#[109, 97, 105, 110]⟩, 0, 0, 2, [], fitB⟩
def fit14 : ProgS := ⟨[fitF], [], 0, 0⟩
theorem once_det {regs : Int} {bl bl' : List BlockS} {st : LiveS} (hl : LiveRun bl (live0 bl regs) st) (ho : OnceS regs bl bl') : bl' = onceL bl st.outs := by
  cases ho with
  | mk h => rw [h.det hl]
theorem fit_run : LiveRun fitB (live0 fitB 2) (liveRound fitB (liveRound fitB (live0 fitB 2))) :=
  .go (by kernel_rfl) (.stop (by kernel_rfl))
theorem fit_run1 : LiveRun fitB1 (live0 fitB1 2) (liveRound fitB1 (liveRound fitB1 (live0 fitB1 2))) :=
  .go (by kernel_rfl) (.stop (by kernel_rfl))
theorem fit_once {bl : List BlockS} (h : OnceS 2 fitB bl) : bl = fitB1 := by
  rw [once_det fit_run h]; kernel_rfl
theorem fit_once1 {bl : List BlockS} (h : OnceS 2 fitB1 bl) : bl = fitB1 := by
  rw [once_det fit_run1 h]; kernel_rfl
theorem fit_code1 {bl : List BlockS} : CodeS 2 fitB1 bl → bl = fitB1 := by
  intro h
  cases h with
  | stop h he => exact fit_once1 h
  | go h hn _ =>
    have := fit_once1 h
    subst this
    exact absurd rfl hn
theorem fit_code {bl : List BlockS} (h : CodeS 2 fitB bl) : bl = fitB1 := by
  cases h with
  | stop h he => exact fit_once h
  | go h hn hr =>
    have := fit_once h
    subst this
    exact fit_code1 hr
theorem fit_dead {f' : FuncS} (h : DeadR fitF f') : f'.blocks = fitB1 := by
  obtain ⟨bm, hc, rfl⟩ := h
  show waysS bm = fitB1
  rw [fit_code hc]; kernel_rfl
theorem slat_one {α : Type} {h : Hp} {b w : Nat} {cs : List Value} {e : TypeId} {x : α} {R : List Value → α → Prop} (hm : h.m b = some ⟨⟨cs⟩, e⟩) (hl : w ≤ cs.length) (hR : R (takeV 0 w cs) x) : SlAt h (some ⟨b, 0, none⟩) w [x] R := by
  refine ⟨fun i y hy => ?_⟩
  cases i with
  | zero => simp at hy; subst hy; exact ⟨b, 0, cs, e, rfl, hm, by omega, by simpa using hR⟩
  | succ i => simp at hy
theorem fit_ok : OkL fitF.regs fitF.blocks ∧ CopyOK fitF := by
  refine ⟨⟨by decide, by decide, by decide, by decide, ?_, by decide, ?_, ?_⟩, ⟨by decide, by decide, by decide, by decide, ?_, ?_⟩⟩
  · intro b hb k hk
    simp only [fitF, fitB, List.mem_singleton] at hb
    subst hb
    simp [nextS, fitT] at hk
  · intro b hb x hx
    simp only [fitF, fitB, List.mem_singleton] at hb
    subst hb
    simp only [List.mem_singleton] at hx
    subst hx
    refine ⟨by decide, ⟨by decide, by decide⟩, fun a ha => ?_⟩
    have ha : a ∈ [(⟨-1, 5⟩ : ArgS)] := ha
    simp only [List.mem_singleton] at ha
    subst ha
    exact ⟨by decide, by decide⟩
  · intro b hb a ha
    simp only [fitF, fitB, List.mem_singleton] at hb
    subst hb
    have ha : a ∈ [(⟨0, 0⟩ : ArgS)] := ha
    simp only [List.mem_singleton] at ha
    subst ha
    exact ⟨by decide, by decide⟩
  · intro b hb
    simp only [fitF, fitB, List.mem_singleton] at hb
    subst hb
    decide
  · intro b hb x hx
    simp only [fitF, fitB, List.mem_singleton] at hb
    subst hb
    simp only [List.mem_singleton] at hx
    subst hx
    decide
set_option maxRecDepth 100000 in
theorem fit14_tf (h : Hp) : TF Try.prog 7 ⟨[]⟩ h (.bool true) h := by
  refine TF.exact (fn := Try.f7) (c := (Try.f7.body.getD .skip)) Try.func7 (by kernel_rfl) Try.ntmps7 (by kernel_rfl) (fun s0 => ⟨Nat.le_refl _, by simp, fun i b hb => ⟨s0.dom i b hb, s0.bd i b hb⟩⟩) fun π s0 => ?_
  conv => arg 2; whnf
  ((with_reducible apply W.seq); repeat (first | ((with_reducible apply RS.assign); exact rfl; exact rfl; exact rfl) | ((with_reducible apply RS.nil); exact mixed; kernel_rfl) | ((with_reducible apply W.reg); kernel_rfl) | ((with_reducible apply thenK_n))))
  ((with_reducible apply W.seq); repeat (first | ((with_reducible apply RS.callB); exact rfl; exact rfl; exact rfl; exact fun H hH => (numN_tf _ H); exact Nm_free (by simp)) | ((with_reducible apply RS.callB); exact rfl; exact rfl; exact rfl; exact fun H hH => (R_tf _ H); exact Nm_free (by simp)) | ((with_reducible apply RS.buildSlice); exact rfl; exact rfl; exact rfl; exact rfl; exact rfl; exact rfl; exact rfl; exact rfl) | ((with_reducible apply RS.store); exact rfl; exact rfl; exact rfl; exact rfl; exact rfl; exact Nat.le_of_ble_eq_true rfl; exact rfl; exact rfl; exact rfl) | ((with_reducible apply RS.alloc); exact rfl; exact rfl) | ((with_reducible apply RS.build); exact rfl; exact rfl; exact rfl; exact rfl) | ((with_reducible apply RS.nil); exact mixed; kernel_rfl) | ((with_reducible apply W.reg); kernel_rfl) | ((with_reducible apply thenK_n))))
  refine W.absorbX fun B0 π0 a0 => ?_
  have m0 : B0.m (π 0) = some ⟨⟨insC ⟨1, 1, ⟨-1, 5⟩, ⟨0, 0⟩, 0, false, false, 0, 0, []⟩ none 0⟩, 64⟩ := a0.loc 0 (by decide : (0 : Nat) < 4)
  have m1 : B0.m (π 1) = some ⟨⟨[.slice (some ⟨π 0, 0, none⟩) 1 1, .int .i64 3, .int .i64 0, .int .i64 0, .int .i64 0, .int .i64 0, .int .i64 0, .int .i64 0, .int .i64 0]⟩, 47⟩ := a0.loc 1 (by decide : (1 : Nat) < 4)
  have m2 : B0.m (π 2) = some ⟨⟨[.string ⟨#[109, 97, 105, 110]⟩, .int .i64 0, .slice none 0 0, .int .i64 2, .slice none 0 0, .slice (some ⟨π 1, 0, none⟩) 1 1]⟩, 35⟩ := a0.loc 2 (by decide : (2 : Nat) < 4)
  have m3 : B0.m (π 3) = some ⟨⟨progC fit14 (some ⟨π 2, 0, none⟩) 1 none 0⟩, 25⟩ := a0.loc 3 (by decide : (3 : Nat) < 4)
  have hs : SlAt B0 (some ⟨π 2, 0, none⟩) 6 fit14.funcs (funcRS B0) := by
    refine slat_one m2 (Nat.le_refl _) ⟨none, 0, none, 0, some ⟨π 1, 0, none⟩, 1, [], rfl, rfl, SlAt.nil, SlAt.nil, ?_⟩
    refine slat_one m1 (Nat.le_refl _) ⟨some ⟨π 0, 0, none⟩, 1, rfl, ?_⟩
    exact slat_one m0 (Nat.le_refl _) ⟨none, 0, rfl, SlAt.nil⟩
  have hK : ∀ f ∈ fit14.funcs, OkL f.regs f.blocks ∧ CopyOK f := by
    intro f hf
    simp only [fit14, List.mem_singleton] at hf
    subst hf
    exact fit_ok
  ((with_reducible apply W.seq); repeat (first | ((with_reducible apply RS.callEx); exact rfl; exact rfl; exact rfl; intro B1 hB1; refine ⟨_, prog_ex fit14 hK (by decide) B1 (π 3) 25 _ _ _ _ (hB1.up _ _ m3) (hs.mono hB1.up fun _ _ h => funcRS_mono hB1.up h), ?_⟩; rintro v H2 π2 ⟨ob, A, c, fs, rfl, hO, hS, hl, hR, ho, hlo⟩ sH2 hle2) | ((with_reducible apply RS.assign); exact rfl; exact rfl; exact rfl) | ((with_reducible apply RS.nil); exact mixed; kernel_rfl) | ((with_reducible apply W.reg); kernel_rfl) | ((with_reducible apply thenK_n))))
  have hl : fs.length = 1 := hl
  obtain ⟨f', hf'⟩ : ∃ f', fs[0]? = some f' := ⟨_, List.getElem?_eq_getElem (by omega)⟩
  have hbl := fit_dead (hR 0 fitF f' rfl hf')
  obtain ⟨gb, go, gcs, ge, rfl, hG, hGl, G1, g1, G2, g2, G3, g3, sec, hGv, _, _, _, hGB⟩ := hS.get 0 f' hf'
  have hG5 : gcs[go + 0 * 6 + 5]? = some (.slice G3 1 g3) := take_nth hGv (j := 5) (by unfold funcC; rw [hbl]; rfl)
  rw [hbl] at hGB
  obtain ⟨bb, bo, bcs, be, rfl, hB, hBl, Q1, q1, hBv, _⟩ := hGB.get 0 ⟨[], fitT⟩ rfl
  have hB0 : bcs[bo + 0 * 9 + 0]? = some (.slice Q1 0 q1) := take_nth hBv (j := 0) rfl
  have hGn := sH2.dom _ _ hG
  have hBn := sH2.dom _ _ hB
  have hOn := sH2.dom _ _ hO
  have hO0 : (progC { fit14 with funcs := fs } (some ⟨gb, go, none⟩) c none 0)[0 + 0]? = some (.slice (some ⟨gb, go, none⟩) 1 c) := by unfold progC; rw [← hl]; rfl
  repeat (first | ((with_reducible apply RS.nePtrNil); exact rfl; exact rfl; exact rfl; exact rfl) | ((with_reducible apply RS.load1B); exact rfl; exact rfl; exact rfl; exact hO; exact hOn; exact hO0) | ((with_reducible apply RS.load1B); exact rfl; exact rfl; exact rfl; exact hG; exact hGn; exact hG5) | ((with_reducible apply RS.load1B); exact rfl; exact rfl; exact rfl; exact hB; exact hBn; exact hB0) | ((with_reducible apply (RS.indexAddrS (n := 0))); exact rfl; exact rfl; exact rfl; exact rfl; exact rfl; exact Nat.succ_pos _) | ((with_reducible apply RS.nilCheck); exact rfl; exact rfl; exact rfl) | ((with_reducible apply RS.move); exact rfl; exact rfl; exact rfl) | ((with_reducible apply RS.assign); exact rfl; exact rfl; exact rfl) | ((with_reducible apply RS.pickT); exact rfl; exact rfl; exact rfl; exact rfl) | ((with_reducible apply RS.cmpT); exact rfl; exact rfl; exact rfl; exact rfl; (simp only [cmpP]; omega)) | ((with_reducible apply RS.lenSl); exact rfl; exact rfl; exact rfl) | ((with_reducible apply RS.fieldAddr); exact rfl; exact rfl; exact rfl) | ((with_reducible apply RS.nil); exact mixed; kernel_rfl) | ((with_reducible apply W.seq)) | ((with_reducible apply W.reg); kernel_rfl) | ((with_reducible apply W.ret)) | ((with_reducible apply thenK_n)))
  exact endsK_ret _ (.cons (.tmp rfl) .nil) fun B' a => ⟨rfl, fun j x hj => a.up _ _ ((hB1.oldH.trans ho).up a0.dom _ _ (a0.up _ _ hj))⟩
end Go.Proofs.Ytjhloakacicdiaa
namespace Go.Proofs.Ytjhloakacicdiaa
open Go.AH
attribute [local irreducible] W RS
set_option maxRecDepth 100000 in
theorem Short_tf (A1 : Option Addr) (n1 c1 : Nat) (A2 : Option Addr) (n2 c2 : Nat) (h : Hp) : TF Try.prog 15 ⟨[.agg ⟨[.slice A1 n1 c1, .slice A2 n2 c2]⟩]⟩ h (.bool (decide (n1 < 3000) && decide (n2 < 3000))) h := by
  refine TF.dom fun hd => ?_
  refine TF.still (fn := Try.f15) (c := (Try.f15.body.getD .skip)) Try.func15 (by kernel_rfl) Try.ntmps15 (by kernel_rfl) (by simp) ?_
  conv => arg 2; whnf
  repeat (first | ((with_reducible apply RS.move); exact rfl; exact rfl; exact rfl) | ((with_reducible apply RS.assign); exact rfl; exact rfl; exact rfl) | ((with_reducible apply RS.cmpC); exact rfl; exact rfl; exact rfl; exact rfl; exact rfl) | ((with_reducible apply RS.lenSl); exact rfl; exact rfl; exact rfl) | ((with_reducible apply RS.fieldAddr); exact rfl; exact rfl; exact rfl) | ((with_reducible apply RS.load1); exact rfl; exact rfl; exact rfl; exact rfl; exact rfl; exact rfl) | ((with_reducible apply RS.box); exact rfl; exact rfl; exact rfl) | ((with_reducible apply RS.nil); exact mixed; kernel_rfl) | ((with_reducible apply W.seq)) | ((with_reducible apply W.reg); kernel_rfl) | ((with_reducible apply thenK_n)))
  repeat' ((first | (((with_reducible apply RS.splitD); exact rfl; exact rfl) <;> intro _) | ((((with_reducible apply RS.splitG); exact rfl; exact rfl) <;> intro _) <;> (fail_if_success (exact absurd ‹true = false› (by decide))) <;> (fail_if_success (exact absurd ‹false = true› (by decide)))) | (((with_reducible apply W.condD); exact rfl) <;> intro _) | ((((with_reducible apply W.cond); exact rfl) <;> intro _) <;> (fail_if_success (exact absurd ‹true = false› (by decide))) <;> (fail_if_success (exact absurd ‹false = true› (by decide))))) <;> repeat (first | ((with_reducible apply RS.assign); exact rfl; exact rfl; exact rfl) | ((with_reducible apply RS.pickT); exact rfl; exact rfl; exact rfl; exact rfl) | ((with_reducible apply RS.pickF); exact rfl; exact rfl; exact rfl; exact rfl) | ((with_reducible apply RS.cmpC); exact rfl; exact rfl; exact rfl; exact rfl; exact rfl) | ((with_reducible apply RS.lenSl); exact rfl; exact rfl; exact rfl) | ((with_reducible apply RS.fieldAddr); exact rfl; exact rfl; exact rfl) | ((with_reducible apply RS.load1); exact rfl; exact rfl; exact rfl; exact rfl; exact rfl; exact rfl) | ((with_reducible apply RS.skip); exact rfl; exact rfl) | ((with_reducible apply RS.nil); exact mixed; kernel_rfl) | ((with_reducible apply W.ret)) | ((with_reducible apply thenK_n))))
  · refine endsK_ret _ (.cons (.tmp rfl) .nil) ⟨rfl, ?_⟩
    rw [decide_eq_true (by omega : n1 < 3000), Bool.true_and]
    show Value.bool (decide ((n2 : Int) < 3000)) = _
    congr 1; exact decide_eq_decide.2 (by omega)
  · refine endsK_ret _ (.cons (.tmp rfl) .nil) ⟨rfl, ?_⟩
    rw [decide_eq_false (by omega : ¬ n1 < 3000)]; rfl
end Go.Proofs.Ytjhloakacicdiaa
namespace Go.Proofs.Ytjhloakacicdiaa
open Go.AH
attribute [local irreducible] W RS
theorem light_args {p : ProgS} (hl : lightP p = true) : ∀ f ∈ p.funcs, ∀ b ∈ f.blocks, ∀ x ∈ b.ins, x.args.length ≤ 1000000000 := by
  intro f hf b hb x hx
  unfold lightP at hl
  simp only [Bool.and_eq_true, decide_eq_true_eq] at hl
  obtain ⟨_, h6⟩ := hl
  obtain ⟨m, hm⟩ := Option.isSome_iff_exists.1 h6
  obtain ⟨_, _, _, _, l6⟩ := lightF_le hm f hf
  have := l6 b hb x hx
  omega
def shortN (n1 n2 : Nat) : Bool := decide (n1 < 3000) && decide (n2 < 3000)
set_option maxRecDepth 100000 in
theorem small_tf (p : ProgS) (hok : p.ok) (h : Hp) (P1 : Option Addr) (d1 : Nat) (P2 : Option Addr) (d2 : Nat) (hfs : SlAt h P1 6 p.funcs (funcR h)) (hgs : SlAt h P2 4 p.globals (globR h)) (A1 : Option Addr) (k1 c1 : Nat) (A2 : Option Addr) (k2 c2 : Nat) (A3 : Option Addr) (k3 c3 : Nat) (A4 : Option Addr) (k4 c4 : Nat) :
    TF Try.prog 8 ⟨[.agg ⟨progC p P1 d1 P2 d2⟩, .agg ⟨[.slice A1 k1 c1, .slice A2 k2 c2]⟩, .agg ⟨[.slice A3 k3 c3, .slice A4 k4 c4]⟩]⟩ h (.bool (lightP p && rightP p && shortN k1 k2 && shortN k3 k4)) h := by
  refine TF.exact (fn := Try.f8) (c := (Try.f8.body.getD .skip)) Try.func8 (by kernel_rfl) Try.ntmps8 (by kernel_rfl) (fun s0 => ⟨Nat.le_refl _, by simp, fun i b hb => ⟨s0.dom i b hb, s0.bd i b hb⟩⟩) fun π s0 => ?_
  conv => arg 2; whnf
  ((with_reducible apply W.seq); repeat (first | ((with_reducible apply RS.assign); exact rfl; exact rfl; exact rfl) | ((with_reducible apply RS.box); exact rfl; exact rfl; exact rfl) | ((with_reducible apply RS.nil); exact mixed; kernel_rfl) | ((with_reducible apply W.reg); kernel_rfl) | ((with_reducible apply thenK_n))))
  refine W.absorbX fun B0 π0 a0 => ?_
  have m0 : B0.m (π 0) = some ⟨⟨progC p P1 d1 P2 d2⟩, 25⟩ := a0.loc 0 (by decide : (0 : Nat) < 3)
  have m1 : B0.m (π 1) = some ⟨⟨[.slice A1 k1 c1, .slice A2 k2 c2]⟩, 30⟩ := a0.loc 1 (by decide : (1 : Nat) < 3)
  have m2 : B0.m (π 2) = some ⟨⟨[.slice A3 k3 c3, .slice A4 k4 c4]⟩, 30⟩ := a0.loc 2 (by decide : (2 : Nat) < 3)
  have n0 := a0.dom _ _ m0
  have n1' := a0.dom _ _ m1
  have n2' := a0.dom _ _ m2
  replace hfs := hfs.mono a0.up fun _ _ h => funcR_mono a0.up h
  replace hgs := hgs.mono a0.up fun _ _ h => globR_mono a0.up h
  have hargs := @light_args p
  obtain ⟨s1, hs1⟩ : ∃ s, (decide (k1 < 3000) && decide (k2 < 3000)) = s := ⟨_, rfl⟩
  obtain ⟨s2, hs2⟩ : ∃ s, (decide (k3 < 3000) && decide (k4 < 3000)) = s := ⟨_, rfl⟩
  unfold shortN
  rw [hs1, hs2]
  have hS1 : ∀ B', TF Try.prog 15 ⟨[.agg ⟨[.slice A1 k1 c1, .slice A2 k2 c2]⟩]⟩ B' (.bool s1) B' := by intro B'; rw [← hs1]; exact Short_tf A1 k1 c1 A2 k2 c2 B'
  have hS2 : ∀ B', TF Try.prog 15 ⟨[.agg ⟨[.slice A3 k3 c3, .slice A4 k4 c4]⟩]⟩ B' (.bool s2) B' := by intro B'; rw [← hs2]; exact Short_tf A3 k3 c3 A4 k4 c4 B'
  clear hs1 hs2
  generalize hlb : lightP p = lb at *
  cases lb with
  | false =>
    repeat (first | ((with_reducible apply RS.loadNB); exact rfl; exact rfl; exact rfl; exact m0; exact n0; exact Nat.le_of_ble_eq_true rfl; exact (show takeV 0 4 (progC p P1 d1 P2 d2) = progC p P1 d1 P2 d2 from rfl)) | ((with_reducible apply (RS.callA (g0 := 14))); exact rfl; exact rfl; exact rfl; exact fun B' hB' => hlb ▸ Light_tf p hok B' P1 d1 P2 d2 (hfs.mono hB'.up fun _ _ h => funcR_mono hB'.up h) (hgs.mono hB'.up fun _ _ h => globR_mono hB'.up h)) | ((with_reducible apply RS.move); exact rfl; exact rfl; exact rfl) | ((with_reducible apply RS.assign); exact rfl; exact rfl; exact rfl) | ((with_reducible apply RS.pickF); exact rfl; exact rfl; exact rfl; exact rfl) | ((with_reducible apply RS.skip); exact rfl; exact rfl) | ((with_reducible apply RS.nil); exact mixed; kernel_rfl) | ((with_reducible apply W.seq)) | ((with_reducible apply W.reg); kernel_rfl) | ((with_reducible apply W.ret)) | ((with_reducible apply thenK_n)))
    exact endsK_ret _ (.cons (.tmp rfl) .nil) fun B' a => ⟨rfl, fun j x hj => a.up _ _ (a0.up _ _ hj)⟩
  | true =>
    replace hargs := hargs rfl
    generalize hrb : rightP p = rb at *
    cases rb with
    | false =>
      have hrv : (if rightP p = true then (0 : Int) else 50) = 50 := by rw [hrb]; rfl
      repeat (first | ((with_reducible apply RS.loadNB); exact rfl; exact rfl; exact rfl; exact m0; exact n0; exact Nat.le_of_ble_eq_true rfl; exact (show takeV 0 4 (progC p P1 d1 P2 d2) = progC p P1 d1 P2 d2 from rfl)) | ((with_reducible apply (RS.callA (g0 := 14))); exact rfl; exact rfl; exact rfl; exact fun B' hB' => hlb ▸ Light_tf p hok B' P1 d1 P2 d2 (hfs.mono hB'.up fun _ _ h => funcR_mono hB'.up h) (hgs.mono hB'.up fun _ _ h => globR_mono hB'.up h)) | ((with_reducible apply (RS.callA (g0 := 26))); exact rfl; exact rfl; exact rfl; exact fun B' hB' => hrv ▸ Right_tf p hok hargs (π 0) 25 P1 d1 P2 d2 B' ⟨hB'.up _ _ m0, hfs.mono hB'.up fun _ _ h => funcR_mono hB'.up h, hgs.mono hB'.up fun _ _ h => globR_mono hB'.up h⟩) | ((with_reducible apply RS.move); exact rfl; exact rfl; exact rfl) | ((with_reducible apply RS.assign); exact rfl; exact rfl; exact rfl) | ((with_reducible apply RS.pickT); exact rfl; exact rfl; exact rfl; exact rfl) | ((with_reducible apply RS.pickF); exact rfl; exact rfl; exact rfl; exact rfl) | ((with_reducible apply RS.cmpF); exact rfl; exact rfl; exact rfl; exact rfl; (simp only [cmpN]; omega)) | ((with_reducible apply RS.skip); exact rfl; exact rfl) | ((with_reducible apply RS.nil); exact mixed; kernel_rfl) | ((with_reducible apply W.seq)) | ((with_reducible apply W.reg); kernel_rfl) | ((with_reducible apply W.ret)) | ((with_reducible apply thenK_n)))
      exact endsK_ret _ (.cons (.tmp rfl) .nil) fun B' a => ⟨rfl, fun j x hj => a.up _ _ (a0.up _ _ hj)⟩
    | true =>
      have hrv : (if rightP p = true then (0 : Int) else 50) = 0 := by rw [hrb]; rfl
      cases s1 with
      | false =>
        repeat (first | ((with_reducible apply RS.loadNB); exact rfl; exact rfl; exact rfl; exact m0; exact n0; exact Nat.le_of_ble_eq_true rfl; exact (show takeV 0 4 (progC p P1 d1 P2 d2) = progC p P1 d1 P2 d2 from rfl)) | ((with_reducible apply RS.loadNB); exact rfl; exact rfl; exact rfl; exact m1; exact n1'; exact Nat.le_of_ble_eq_true rfl; exact (show takeV 0 2 [Value.slice A1 k1 c1, .slice A2 k2 c2] = [Value.slice A1 k1 c1, .slice A2 k2 c2] from rfl)) | ((with_reducible apply (RS.callA (g0 := 14))); exact rfl; exact rfl; exact rfl; exact fun B' hB' => hlb ▸ Light_tf p hok B' P1 d1 P2 d2 (hfs.mono hB'.up fun _ _ h => funcR_mono hB'.up h) (hgs.mono hB'.up fun _ _ h => globR_mono hB'.up h)) | ((with_reducible apply (RS.callA (g0 := 26))); exact rfl; exact rfl; exact rfl; exact fun B' hB' => hrv ▸ Right_tf p hok hargs (π 0) 25 P1 d1 P2 d2 B' ⟨hB'.up _ _ m0, hfs.mono hB'.up fun _ _ h => funcR_mono hB'.up h, hgs.mono hB'.up fun _ _ h => globR_mono hB'.up h⟩) | ((with_reducible apply (RS.callA (g0 := 15))); exact rfl; exact rfl; exact rfl; exact fun B' hB' => hS1 B') | ((with_reducible apply RS.move); exact rfl; exact rfl; exact rfl) | ((with_reducible apply RS.assign); exact rfl; exact rfl; exact rfl) | ((with_reducible apply RS.pickT); exact rfl; exact rfl; exact rfl; exact rfl) | ((with_reducible apply RS.pickF); exact rfl; exact rfl; exact rfl; exact rfl) | ((with_reducible apply RS.cmpC); exact rfl; exact rfl; exact rfl; exact rfl; exact rfl) | ((with_reducible apply RS.skip); exact rfl; exact rfl) | ((with_reducible apply RS.nil); exact mixed; kernel_rfl) | ((with_reducible apply W.seq)) | ((with_reducible apply W.reg); kernel_rfl) | ((with_reducible apply W.ret)) | ((with_reducible apply thenK_n)))
        exact endsK_ret _ (.cons (.tmp rfl) .nil) fun B' a => ⟨rfl, fun j x hj => a.up _ _ (a0.up _ _ hj)⟩
      | true =>
        cases s2 with
        | false =>
          repeat (first | ((with_reducible apply RS.loadNB); exact rfl; exact rfl; exact rfl; exact m0; exact n0; exact Nat.le_of_ble_eq_true rfl; exact (show takeV 0 4 (progC p P1 d1 P2 d2) = progC p P1 d1 P2 d2 from rfl)) | ((with_reducible apply RS.loadNB); exact rfl; exact rfl; exact rfl; exact m1; exact n1'; exact Nat.le_of_ble_eq_true rfl; exact (show takeV 0 2 [Value.slice A1 k1 c1, .slice A2 k2 c2] = [Value.slice A1 k1 c1, .slice A2 k2 c2] from rfl)) | ((with_reducible apply RS.loadNB); exact rfl; exact rfl; exact rfl; exact m2; exact n2'; exact Nat.le_of_ble_eq_true rfl; exact (show takeV 0 2 [Value.slice A3 k3 c3, .slice A4 k4 c4] = [Value.slice A3 k3 c3, .slice A4 k4 c4] from rfl)) | ((with_reducible apply (RS.callA (g0 := 14))); exact rfl; exact rfl; exact rfl; exact fun B' hB' => hlb ▸ Light_tf p hok B' P1 d1 P2 d2 (hfs.mono hB'.up fun _ _ h => funcR_mono hB'.up h) (hgs.mono hB'.up fun _ _ h => globR_mono hB'.up h)) | ((with_reducible apply (RS.callA (g0 := 26))); exact rfl; exact rfl; exact rfl; exact fun B' hB' => hrv ▸ Right_tf p hok hargs (π 0) 25 P1 d1 P2 d2 B' ⟨hB'.up _ _ m0, hfs.mono hB'.up fun _ _ h => funcR_mono hB'.up h, hgs.mono hB'.up fun _ _ h => globR_mono hB'.up h⟩) | ((with_reducible apply (RS.callA (g0 := 15))); exact rfl; exact rfl; exact rfl; exact fun B' hB' => hS1 B') | ((with_reducible apply (RS.callA (g0 := 15))); exact rfl; exact rfl; exact rfl; exact fun B' hB' => hS2 B') | ((with_reducible apply RS.move); exact rfl; exact rfl; exact rfl) | ((with_reducible apply RS.assign); exact rfl; exact rfl; exact rfl) | ((with_reducible apply RS.pickT); exact rfl; exact rfl; exact rfl; exact rfl) | ((with_reducible apply RS.cmpC); exact rfl; exact rfl; exact rfl; exact rfl; exact rfl) | ((with_reducible apply RS.nil); exact mixed; kernel_rfl) | ((with_reducible apply W.seq)) | ((with_reducible apply W.reg); kernel_rfl) | ((with_reducible apply W.ret)) | ((with_reducible apply thenK_n)))
          exact endsK_ret _ (.cons (.tmp rfl) .nil) fun B' a => ⟨rfl, fun j x hj => a.up _ _ (a0.up _ _ hj)⟩
        | true =>
          repeat (first | ((with_reducible apply RS.loadNB); exact rfl; exact rfl; exact rfl; exact m0; exact n0; exact Nat.le_of_ble_eq_true rfl; exact (show takeV 0 4 (progC p P1 d1 P2 d2) = progC p P1 d1 P2 d2 from rfl)) | ((with_reducible apply RS.loadNB); exact rfl; exact rfl; exact rfl; exact m1; exact n1'; exact Nat.le_of_ble_eq_true rfl; exact (show takeV 0 2 [Value.slice A1 k1 c1, .slice A2 k2 c2] = [Value.slice A1 k1 c1, .slice A2 k2 c2] from rfl)) | ((with_reducible apply RS.loadNB); exact rfl; exact rfl; exact rfl; exact m2; exact n2'; exact Nat.le_of_ble_eq_true rfl; exact (show takeV 0 2 [Value.slice A3 k3 c3, .slice A4 k4 c4] = [Value.slice A3 k3 c3, .slice A4 k4 c4] from rfl)) | ((with_reducible apply (RS.callA (g0 := 14))); exact rfl; exact rfl; exact rfl; exact fun B' hB' => hlb ▸ Light_tf p hok B' P1 d1 P2 d2 (hfs.mono hB'.up fun _ _ h => funcR_mono hB'.up h) (hgs.mono hB'.up fun _ _ h => globR_mono hB'.up h)) | ((with_reducible apply (RS.callA (g0 := 26))); exact rfl; exact rfl; exact rfl; exact fun B' hB' => hrv ▸ Right_tf p hok hargs (π 0) 25 P1 d1 P2 d2 B' ⟨hB'.up _ _ m0, hfs.mono hB'.up fun _ _ h => funcR_mono hB'.up h, hgs.mono hB'.up fun _ _ h => globR_mono hB'.up h⟩) | ((with_reducible apply (RS.callA (g0 := 15))); exact rfl; exact rfl; exact rfl; exact fun B' hB' => hS1 B') | ((with_reducible apply (RS.callA (g0 := 15))); exact rfl; exact rfl; exact rfl; exact fun B' hB' => hS2 B') | ((with_reducible apply RS.move); exact rfl; exact rfl; exact rfl) | ((with_reducible apply RS.assign); exact rfl; exact rfl; exact rfl) | ((with_reducible apply RS.pickT); exact rfl; exact rfl; exact rfl; exact rfl) | ((with_reducible apply RS.cmpC); exact rfl; exact rfl; exact rfl; exact rfl; exact rfl) | ((with_reducible apply RS.nil); exact mixed; kernel_rfl) | ((with_reducible apply W.seq)) | ((with_reducible apply W.reg); kernel_rfl) | ((with_reducible apply W.ret)) | ((with_reducible apply thenK_n)))
          exact endsK_ret _ (.cons (.tmp rfl) .nil) fun B' a => ⟨rfl, fun j x hj => a.up _ _ (a0.up _ _ hj)⟩
end Go.Proofs.Ytjhloakacicdiaa
namespace Go.Proofs.Ytjhloakacicdiaa
open Go.AH
attribute [local irreducible] W RS
structure WaysOK (bl w : List BlockS) : Prop where
  pos : 0 < w.length
  le : w.length ≤ bl.length
  ok : ∀ (i : Nat) (b : BlockS), w[i]? = some b → hasS (reachedS w) i = true ∧ ¬ (b.term.kind = 2 ∧ b.term.goto = b.term.els)
  tgt : tgtOK w
set_option maxRecDepth 100000 in
theorem DeadWays_tf (h : Hp) (p : ProgS) (hok : p.ok) (P1 : Option Addr) (d1 : Nat) (P2 : Option Addr) (d2 : Nat) (hfs : SlAt h P1 6 p.funcs (funcRS h)) (hgs : SlAt h P2 4 p.globals (globR h)) (law : ∀ f ∈ p.funcs, OkL f.regs f.blocks → WaysOK f.blocks (waysS f.blocks)) :
    TF Try.prog 3 ⟨[.agg ⟨progC p P1 d1 P2 d2⟩]⟩ h (.bool true) h := by
  refine TF.exact (fn := Try.f3) (c := (Try.f3.body.getD .skip)) Try.func3 (by kernel_rfl) Try.ntmps3 (by kernel_rfl) (fun s0 => ⟨Nat.le_refl _, by simp, fun i b hb => ⟨s0.dom i b hb, s0.bd i b hb⟩⟩) fun π s0 => ?_
  conv => arg 2; whnf
  ((with_reducible apply W.seq); repeat (first | ((with_reducible apply RS.assign); exact rfl; exact rfl; exact rfl) | ((with_reducible apply RS.box); exact rfl; exact rfl; exact rfl) | ((with_reducible apply RS.nil); exact mixed; kernel_rfl) | ((with_reducible apply W.reg); kernel_rfl) | ((with_reducible apply thenK_n))))
  refine W.absorbX fun B0 π0 a0 => ?_
  have m0 : B0.m (π 0) = some ⟨⟨progC p P1 d1 P2 d2⟩, 25⟩ := a0.loc 0 (by decide : (0 : Nat) < 1)
  generalize π 0 = pb at *
  have n0 := a0.dom _ _ m0
  replace hfs := hfs.mono a0.up fun _ _ h => funcRS_mono a0.up h
  replace hgs := hgs.mono a0.up fun _ _ h => globR_mono a0.up h
  obtain ⟨sb, hsb⟩ : ∃ sb, (lightP p && rightP p && shortN 0 0 && shortN 0 0) = sb := ⟨_, rfl⟩
  have hsm : ∀ B', (∀ i b, B0.m i = some b → B'.m i = some b) → TF Try.prog 8 ⟨[.agg ⟨progC p P1 d1 P2 d2⟩, .agg ⟨[.slice none 0 0, .slice none 0 0]⟩, .agg ⟨[.slice none 0 0, .slice none 0 0]⟩]⟩ B' (.bool sb) B' := by
    intro B' hu
    rw [← hsb]
    exact small_tf p hok B' P1 d1 P2 d2 (hfs.mono hu fun _ _ h => funcR_mono hu h.r) (hgs.mono hu fun _ _ h => globR_mono hu h) none 0 0 none 0 0 none 0 0 none 0 0
  cases sb with
  | false =>
    repeat (first | ((with_reducible apply (RS.callA (g0 := 7))); exact rfl; exact rfl; exact rfl; exact fun B' hB' => fit14_tf B') | ((with_reducible apply RS.loadNB); exact rfl; exact rfl; exact rfl; exact m0; exact n0; exact Nat.le_of_ble_eq_true rfl; exact (show takeV 0 4 (progC p P1 d1 P2 d2) = progC p P1 d1 P2 d2 from rfl)) | ((with_reducible apply (RS.callA (g0 := 8))); exact rfl; exact rfl; exact rfl; exact fun B' hB' => hsm B' (fun i b hb => hB'.up i b hb)) | ((with_reducible apply RS.assign); exact rfl; exact rfl; exact rfl) | ((with_reducible apply RS.not); exact rfl; exact rfl; exact rfl) | ((with_reducible apply RS.build); exact rfl; exact rfl; exact rfl; exact rfl) | ((with_reducible apply RS.nil); exact mixed; kernel_rfl) | ((with_reducible apply W.seq)) | ((with_reducible apply W.reg); kernel_rfl) | ((with_reducible apply W.ret)) | ((with_reducible apply W.skip)) | ((with_reducible apply W.condT); kernel_rfl; exact rfl) | ((with_reducible apply W.condF); kernel_rfl; exact rfl) | ((with_reducible apply thenK_n)) | ((with_reducible apply thenK_r)))
    exact endsK_ret _ (.cons (.tmp rfl) .nil) fun B' a => ⟨rfl, fun j x hj => a.up _ _ (a0.up _ _ hj)⟩
  | true =>
    have hlr : lightP p = true ∧ rightP p = true := by
      simp only [Bool.and_eq_true] at hsb
      exact hsb.1.1
    have hLF := light_right hok hlr.1 hlr.2
    have hnf : p.funcs.length ≤ 20 := by
      have := hlr.1
      unfold lightP at this
      simp only [Bool.and_eq_true, decide_eq_true_eq] at this
      exact this.1.1.1.1.1
    repeat (first | ((with_reducible apply (RS.callA (g0 := 7))); exact rfl; exact rfl; exact rfl; exact fun B' hB' => fit14_tf B') | ((with_reducible apply RS.loadNB); exact rfl; exact rfl; exact rfl; exact m0; exact n0; exact Nat.le_of_ble_eq_true rfl; exact (show takeV 0 4 (progC p P1 d1 P2 d2) = progC p P1 d1 P2 d2 from rfl)) | ((with_reducible apply (RS.callA (g0 := 8))); exact rfl; exact rfl; exact rfl; exact fun B' hB' => hsm B' (fun i b hb => hB'.up i b hb)) | ((with_reducible apply RS.load1B); exact rfl; exact rfl; exact rfl; exact m0; exact n0; exact rfl) | ((with_reducible apply RS.move); exact rfl; exact rfl; exact rfl) | ((with_reducible apply RS.lenSl); exact rfl; exact rfl; exact rfl) | ((with_reducible apply RS.not); exact rfl; exact rfl; exact rfl) | ((with_reducible apply RS.fieldAddr); exact rfl; exact rfl; exact rfl) | ((with_reducible apply RS.build); exact rfl; exact rfl; exact rfl; exact rfl) | ((with_reducible apply RS.nil); exact mixed; kernel_rfl) | ((with_reducible apply W.seq)) | ((with_reducible apply W.reg); kernel_rfl) | ((with_reducible apply W.block)) | ((with_reducible apply W.skip)) | ((with_reducible apply W.condF); kernel_rfl; exact rfl) | ((with_reducible apply thenK_n)))
    refine W.loopN (X := Nat) (fun i => [(17, .slice P1 p.funcs.length d1), (18, .int .i64 (p.funcs.length : Int)), (19, .int .i64 (i : Int))]) (fun i B => i ≤ p.funcs.length ∧ Old B0 B) (fun i => p.funcs.length - i)
      (fun B' a => ⟨0, ?_, ⟨Nat.zero_le _, a.oldH⟩⟩) ?_
    · (repeat' (first | exact trivial | exact rfl | apply And.intro)); done
    rintro i B π1 sB ⟨hi, old⟩
    by_cases hlt : i < p.funcs.length
    · obtain ⟨f, hf⟩ : ∃ f, p.funcs[i]? = some f := ⟨_, List.getElem?_eq_getElem hlt⟩
      obtain ⟨hoL, hC⟩ := hLF f (List.mem_of_getElem? hf)
      obtain ⟨gb, go, gcs, ge, rfl, hG0, hGl, B1, e1, B2, e2, B3, e3, sec, hGv, hsec, hsS, hsL, hsB⟩ := hfs.get i f hf
      have hup := old.up a0.dom
      have hG := hup _ _ hG0
      have hGn := sB.dom _ _ hG
      replace hsS := hsS.mono hup fun _ _ h => h
      replace hsL := hsL.mono hup fun _ _ h => h
      replace hsB := hsB.mono hup fun _ _ h => blockR_mono hup h
      ((with_reducible apply W.seq); repeat (first | ((with_reducible apply RS.cmpT); exact rfl; exact rfl; exact rfl; exact rfl; (simp only [cmpP]; omega)) | ((with_reducible apply RS.nil); exact mixed; kernel_rfl) | ((with_reducible apply W.reg); kernel_rfl) | ((with_reducible apply thenK_n))))
      ((with_reducible apply W.seq); repeat (first | ((with_reducible apply W.skip)) | ((with_reducible apply W.condT); kernel_rfl; exact rfl) | ((with_reducible apply thenK_n))))
      ((with_reducible apply W.seq); repeat (first | ((with_reducible apply W.block))))
      ((with_reducible apply W.seq); ((with_reducible apply W.reg); kernel_rfl); repeat (first | ((with_reducible apply RS.indexAddrS); exact rfl; exact rfl; exact rfl; exact rfl; exact rfl; omega) | ((with_reducible apply RS.loadNB); exact rfl; exact rfl; exact rfl; exact hG; exact hGn; exact hGl; exact hGv) | ((with_reducible apply RS.store); exact rfl; exact rfl; exact rfl; exact rfl; exact rfl; exact Nat.le_of_ble_eq_true rfl; exact rfl; exact rfl; exact rfl) | ((with_reducible apply RS.alloc); exact rfl; exact rfl) | ((with_reducible apply RS.nil); exact mixed; kernel_rfl))); (with_reducible apply thenK_n)
      refine W.absorbX fun C π2 a2 => ?_
      have hq : C.m (π1 0) = some ⟨⟨funcC f B1 e1 B2 e2 B3 e3⟩, 35⟩ := a2.loc 0 (by decide : (0 : Nat) < 1)
      generalize π1 0 = q at *
      have hqn := a2.dom _ _ hq
      replace hsS := hsS.mono a2.up fun _ _ h => h
      replace hsL := hsL.mono a2.up fun _ _ h => h
      replace hsB := hsB.mono a2.up fun _ _ h => blockR_mono a2.up h
      ((with_reducible apply W.seq); ((with_reducible apply W.reg); kernel_rfl); repeat (first | ((with_reducible apply RS.loadNB); exact rfl; exact rfl; exact rfl; exact hq; exact hqn; exact Nat.le_of_ble_eq_true rfl; exact (show takeV 0 6 (funcC f B1 e1 B2 e2 B3 e3) = funcC f B1 e1 B2 e2 B3 e3 from rfl)) | ((with_reducible apply (RS.callEx (g0 := 10))); exact rfl; exact rfl; exact rfl; intro B4 hB4; refine ⟨_, copy_ex B4 f B1 e1 B2 e2 B3 e3 sec hsec (hsS.mono hB4.up fun _ _ h => h) (hsL.mono hB4.up fun _ _ h => h) (hsB.mono hB4.up fun _ _ h => blockR_mono hB4.up h) hC.pos hC.sec hC.slots hC.len hC.ins hC.args, ?_⟩; rintro v H5 π5 ⟨A1', c1', A2', c2', bb, bv, rfl, hm5, hbb5, hod5, hsl5, ho5, hr1, hr2⟩ sH5 hle5; have hrw4 : rwM ≤ B4.n := Nat.le_trans hB4.rw hB4.le; have hown5 := hod5.own hrw4 (Nat.le_trans hrw4 hbb5) hm5; have hbl5 : bv.length = f.blocks.length := (by rw [← hsl5, sL_length]); have htg5 : tgtOK (sL bv) := (by rw [hsl5]; exact hoL.tgt); have htt5 : totB bv ≤ 1000000 := (by rw [← sizeS_eq, hsl5]; exact hoL.size)) | ((with_reducible apply (RS.callEx (g0 := 9))); exact rfl; exact rfl; exact rfl; intro B6 hB6; refine ⟨_, ways_ex B6 bb bv f A1' c1' A2' c2' (capOf 9) hsl5.symm (by rw [hbl5]; exact hoL.pos) (by rw [hbl5]; exact hoL.len) (hown5.up hB6.up) htg5 htt5, ?_⟩; rintro v H7 π7 ⟨lb, kv, rfl, hown7, hkv7, hoff7, hft7⟩ sH7 hle7) | ((with_reducible apply RS.store); exact rfl; exact rfl; exact rfl; exact rfl; exact rfl; exact Nat.le_of_ble_eq_true rfl; exact rfl; exact rfl; exact rfl) | ((with_reducible apply RS.alloc); exact rfl; exact rfl) | ((with_reducible apply RS.nil); exact mixed; kernel_rfl))); (with_reducible apply thenK_n)
      have oC7 : Old C H7 := ((hB4.oldH.trans ho5).trans hB6.oldH).offS hoff7 fun j e => (by
        have h1 : C.n ≤ B4.n := hB4.le
        rcases e with e | ⟨b, hb, hbn, hbr⟩
        · omega
        · have := (hod5.row b hb hbn).1; omega)
      refine W.absorbX fun D π8 a8 => ?_
      have hlaw := law f (List.mem_of_getElem? hf) hoL
      rw [← hsl5] at hlaw
      have hF : D.m (π7 0) = some ⟨⟨funcC { f with blocks := waysS (sL bv) } A1' c1' A2' c2' (some ⟨lb, 0, none⟩) (capOf 9)⟩, 35⟩ := a8.loc 0 (by decide : (0 : Nat) < 1)
      have hfbn : H7.n ≤ π7 0 := a8.lo 0 (by decide : (0 : Nat) < 1)
      generalize waysS (sL bv) = ww at *
      generalize π7 0 = fb at *
      have hFn := a8.dom _ _ hF
      have hFw : rwM ≤ fb := Nat.le_trans sH7.rw hfbn
      have hownD := hown7.up a8.up
      have hfat : FAt D fb f.regs (some ⟨lb, 0, none⟩) (capOf 9) ww := by
        have := FunB.at (f := { f with blocks := ww }) ⟨hF, hFw⟩ hownD (by show ww.length = kv.length; rw [← hkv7, sL_length])
        rw [hkv7] at this; exact this
      have hwne : ww ≠ [] := List.length_pos_iff.1 hlaw.pos
      have hwl : ww.length ≤ 100000 := by have h1 := hlaw.le; have h2 := hoL.len; rw [hsl5] at h1; omega
      have hwle : ww.length ≤ f.blocks.length := by have h1 := hlaw.le; rw [hsl5] at h1; exact h1
      have hwpos := hlaw.pos
      ((with_reducible apply W.seq); ((with_reducible apply W.reg); kernel_rfl); repeat (first | ((with_reducible apply (RS.callEx (g0 := 11))); exact rfl; exact rfl; exact rfl; intro B8 hB8; refine ⟨_, reached_ex fb f.regs (some ⟨lb, 0, none⟩) (capOf 9) ww hwne hwl hlaw.tgt B8 (hfat.up hB8.up), ?_⟩; rintro v H9 π9 ⟨Ar, cr, rfl, hs9, ho9, hn9⟩ sH9 hle9) | ((with_reducible apply RS.assign); exact rfl; exact rfl; exact rfl) | ((with_reducible apply RS.nil); exact mixed; kernel_rfl))); (with_reducible apply thenK_n)
      have o9 : Old D H9 := hB8.oldH.trans ho9
      have hF9 := o9.up a8.dom _ _ hF
      have hF9n := sH9.dom _ _ hF9
      have hrl : (reachedS ww).length ≤ 1000000000 := by rw [reachedS_len]; omega
      have old0 : Old B0 H9 := ((((old.trans a2.oldH).trans oC7).trans a8.oldH).trans o9)
      have hqE := ((oC7.trans a8.oldH).trans o9).up a2.dom _ _ hq
      have hownE := hownD.up (o9.up a8.dom)
      ((with_reducible apply W.seq); repeat (fail))
      ((with_reducible apply W.seq); repeat (first | ((with_reducible apply RS.load1B); exact rfl; exact rfl; exact rfl; exact hF9; exact hF9n; exact rfl) | ((with_reducible apply RS.move); exact rfl; exact rfl; exact rfl) | ((with_reducible apply RS.lenSl); exact rfl; exact rfl; exact rfl) | ((with_reducible apply RS.fieldAddr); exact rfl; exact rfl; exact rfl) | ((with_reducible apply RS.nil); exact mixed; kernel_rfl) | ((with_reducible apply W.reg); kernel_rfl) | ((with_reducible apply W.block)) | ((with_reducible apply thenK_n))))
      refine W.loopN (X := Nat) (fun j => [(4, .pointer (some ⟨q, 0, none⟩)), (5, .pointer (some ⟨fb, 0, none⟩)), (6, .slice Ar (reachedS ww).length cr), (28, .slice (some ⟨lb, 0, none⟩) ww.length (capOf 9)), (29, .int .i64 (ww.length : Int)), (30, .int .i64 (j : Int)), (17, .slice (some ⟨gb, go, none⟩) p.funcs.length d1), (18, .int .i64 (p.funcs.length : Int)), (19, .int .i64 (i : Int))]) (fun j E => j ≤ ww.length ∧ Old H9 E) (fun j => ww.length - j)
        (fun B' a => ⟨0, ?_, ⟨Nat.zero_le _, a.oldH⟩⟩) ?_
      · (repeat' (first | exact trivial | exact rfl | apply And.intro)); done
      rintro j E π10 sE ⟨hj, oldE⟩
      have hup9 := oldE.up sH9.dom
      have hFE := hup9 _ _ hF9
      have hFEn := sE.dom _ _ hFE
      have hqE' := hup9 _ _ hqE
      have hqEn := sE.dom _ _ hqE'
      by_cases hjl : j < ww.length
      · obtain ⟨x, hx⟩ : ∃ x, ww[j]? = some x := ⟨_, List.getElem?_eq_getElem hjl⟩
        obtain ⟨hxr, hxk⟩ := hlaw.ok j x hx
        have hsl9 := (hownE.up hup9).sl
        rw [hkv7] at hsl9
        obtain ⟨xb, xo, xcs, xe, hA, hX, hXl, X1, y1, hXv, _⟩ := hsl9.get j x hx
        injection hA with hA
        injection hA with hA1 hA2
        subst hA1; subst hA2
        have hXn := sE.dom _ _ hX
        have hjf : fitI (j : Int) := by unfold fitI; omega
        ((with_reducible apply W.seq); repeat (first | ((with_reducible apply RS.cmpT); exact rfl; exact rfl; exact rfl; exact rfl; (simp only [cmpP]; omega)) | ((with_reducible apply RS.nil); exact mixed; kernel_rfl) | ((with_reducible apply W.reg); kernel_rfl) | ((with_reducible apply thenK_n))))
        ((with_reducible apply W.seq); repeat (first | ((with_reducible apply W.skip)) | ((with_reducible apply W.condT); kernel_rfl; exact rfl) | ((with_reducible apply thenK_n))))
        ((with_reducible apply W.seq); repeat (first | ((with_reducible apply W.block))))
        ((with_reducible apply W.seq); ((with_reducible apply W.reg); kernel_rfl); repeat (first | ((with_reducible apply RS.indexAddrS); exact rfl; exact rfl; exact rfl; exact rfl; exact rfl; omega) | ((with_reducible apply RS.loadNB); exact rfl; exact rfl; exact rfl; exact hX; exact hXn; exact hXl; exact hXv) | ((with_reducible apply RS.move); exact rfl; exact rfl; exact rfl) | ((with_reducible apply RS.assign); exact rfl; exact rfl; exact rfl) | ((with_reducible apply RS.store); exact rfl; exact rfl; exact rfl; exact rfl; exact rfl; exact Nat.le_of_ble_eq_true rfl; exact rfl; exact rfl; exact rfl) | ((with_reducible apply RS.alloc); exact rfl; exact rfl) | ((with_reducible apply RS.nil); exact mixed; kernel_rfl))); (with_reducible apply thenK_n)
        refine W.absorbX fun G π11 a11 => ?_
        have ht : G.m (π10 0) = some ⟨⟨blockC x X1 y1⟩, 47⟩ := a11.loc 0 (by decide : (0 : Nat) < 1)
        generalize π10 0 = tb at *
        have htn := a11.dom _ _ ht
        have hs11 := setAt_up (setAt_up hs9 hup9) a11.up
        have hhas : ∀ B', (∀ i b, G.m i = some b → B'.m i = some b) → TF Try.prog 12 ⟨[.slice Ar (reachedS ww).length cr, .int .i64 (j : Int)]⟩ B' (.bool true) B' := by
          intro B' hu
          rw [← hxr]
          exact has_tf (reachedS ww) Ar cr (j : Int) hjf hrl B' (setAt_up hs11 hu)
        by_cases hk2 : x.term.kind = 2
        · have hne : ¬ x.term.goto = x.term.els := fun e => hxk ⟨hk2, e⟩
          repeat (first | ((with_reducible apply RS.load1B); exact rfl; exact rfl; exact rfl; exact ht; exact htn; exact rfl) | ((with_reducible apply (RS.callA (g0 := 12))); exact rfl; exact rfl; exact rfl; exact fun B' hB' => hhas B' (fun i b hb => hB'.up i b hb)) | ((with_reducible apply RS.move); exact rfl; exact rfl; exact rfl) | ((with_reducible apply RS.pickT); exact rfl; exact rfl; exact rfl; exact rfl) | ((with_reducible apply RS.pickF); exact rfl; exact rfl; exact rfl; exact rfl) | ((with_reducible apply RS.cmpT); exact rfl; exact rfl; exact rfl; exact rfl; (simp only [cmpP]; omega)) | ((with_reducible apply RS.cmpF); exact rfl; exact rfl; exact rfl; exact rfl; (simp only [cmpN]; omega)) | ((with_reducible apply RS.add1); exact rfl; exact rfl; exact rfl; exact rfl; omega) | ((with_reducible apply RS.not); exact rfl; exact rfl; exact rfl) | ((with_reducible apply RS.fieldAddr); exact rfl; exact rfl; exact rfl) | ((with_reducible apply RS.nil); exact mixed; kernel_rfl) | ((with_reducible apply W.seq)) | ((with_reducible apply W.reg); kernel_rfl) | ((with_reducible apply W.skip)) | ((with_reducible apply W.condF); kernel_rfl; exact rfl) | ((with_reducible apply thenK_n)) | ((with_reducible apply blockK_n)))
          refine roundN_n rfl fun B' a => ⟨j + 1, ?_, ⟨by omega, (oldE.trans a11.oldH).trans a.oldH⟩, by omega⟩
          (repeat' (first | exact trivial | exact rfl | apply And.intro)); done
        · repeat (first | ((with_reducible apply RS.load1B); exact rfl; exact rfl; exact rfl; exact ht; exact htn; exact rfl) | ((with_reducible apply (RS.callA (g0 := 12))); exact rfl; exact rfl; exact rfl; exact fun B' hB' => hhas B' (fun i b hb => hB'.up i b hb)) | ((with_reducible apply RS.move); exact rfl; exact rfl; exact rfl) | ((with_reducible apply RS.pickF); exact rfl; exact rfl; exact rfl; exact rfl) | ((with_reducible apply RS.cmpF); exact rfl; exact rfl; exact rfl; exact rfl; (simp only [cmpN]; omega)) | ((with_reducible apply RS.add1); exact rfl; exact rfl; exact rfl; exact rfl; omega) | ((with_reducible apply RS.not); exact rfl; exact rfl; exact rfl) | ((with_reducible apply RS.fieldAddr); exact rfl; exact rfl; exact rfl) | ((with_reducible apply RS.skip); exact rfl; exact rfl) | ((with_reducible apply RS.nil); exact mixed; kernel_rfl) | ((with_reducible apply W.seq)) | ((with_reducible apply W.reg); kernel_rfl) | ((with_reducible apply W.skip)) | ((with_reducible apply W.condF); kernel_rfl; exact rfl) | ((with_reducible apply thenK_n)) | ((with_reducible apply blockK_n)))
          refine roundN_n rfl fun B' a => ⟨j + 1, ?_, ⟨by omega, (oldE.trans a11.oldH).trans a.oldH⟩, by omega⟩
          (repeat' (first | exact trivial | exact rfl | apply And.intro)); done
      · repeat (first | ((with_reducible apply RS.load1B); exact rfl; exact rfl; exact rfl; exact hFE; exact hFEn; exact rfl) | ((with_reducible apply RS.load1B); exact rfl; exact rfl; exact rfl; exact hqE'; exact hqEn; exact rfl) | ((with_reducible apply RS.move); exact rfl; exact rfl; exact rfl) | ((with_reducible apply RS.pickF); exact rfl; exact rfl; exact rfl; exact rfl) | ((with_reducible apply RS.cmpF); exact rfl; exact rfl; exact rfl; exact rfl; (simp only [cmpN]; omega)) | ((with_reducible apply RS.add1); exact rfl; exact rfl; exact rfl; exact rfl; omega) | ((with_reducible apply RS.lenSl); exact rfl; exact rfl; exact rfl) | ((with_reducible apply RS.fieldAddr); exact rfl; exact rfl; exact rfl) | ((with_reducible apply RS.nil); exact mixed; kernel_rfl) | ((with_reducible apply W.seq)) | ((with_reducible apply W.reg); kernel_rfl) | ((with_reducible apply W.exit)) | ((with_reducible apply W.skip)) | ((with_reducible apply W.condF); kernel_rfl; exact rfl) | ((with_reducible apply thenK_n)) | ((with_reducible apply thenK_e)) | ((with_reducible apply blockK_n)) | ((with_reducible apply blockK_hit); exact rfl) | ((with_reducible apply roundN_e)))
        refine roundN_n rfl fun B' a => ⟨i + 1, ?_, ⟨by omega, (old0.trans oldE).trans a.oldH⟩, by omega⟩
        (repeat' (first | exact trivial | exact rfl | apply And.intro)); done
    · repeat (first | ((with_reducible apply RS.assign); exact rfl; exact rfl; exact rfl) | ((with_reducible apply RS.cmpF); exact rfl; exact rfl; exact rfl; exact rfl; (simp only [cmpN]; omega)) | ((with_reducible apply RS.nil); exact mixed; kernel_rfl) | ((with_reducible apply W.seq)) | ((with_reducible apply W.reg); kernel_rfl) | ((with_reducible apply W.exit)) | ((with_reducible apply W.ret)) | ((with_reducible apply W.condF); kernel_rfl; exact rfl) | ((with_reducible apply thenK_n)) | ((with_reducible apply thenK_e)) | ((with_reducible apply blockK_hit); exact rfl) | ((with_reducible apply roundN_e)))
      exact endsK_ret _ (.cons (.tmp rfl) .nil) fun B' a => ⟨rfl, fun j x hj => a.up _ _ (old.up a0.dom _ _ (a0.up _ _ hj))⟩
end Go.Proofs.Ytjhloakacicdiaa
namespace Go.Proofs.Ytjhloakacicdiaa
open Go.AH
inductive Reach (bl : List BlockS) : Int → Prop
  | zero : Reach bl 0
  | step {k k' : Int} (h : Reach bl k) (hn : k' ∈ nextAt bl k) : Reach bl k'
theorem nextAt_in {bl : List BlockS} (ht : tgtOK bl) {k k' : Int} (h : k' ∈ nextAt bl k) : 0 ≤ k' ∧ k' < bl.length := by
  unfold nextAt at h
  split at h
  · rename_i b hb
    exact ht b (List.mem_of_getElem? hb) k' h
  · cases h
theorem Reach.in_ {bl : List BlockS} (hpos : 0 < bl.length) (ht : tgtOK bl) {k : Int} (h : Reach bl k) : 0 ≤ k ∧ k < bl.length := by
  cases h with
  | zero => omega
  | step _ hn => exact nextAt_in ht hn
theorem reachPush_set {n : Nat} {k : Int} (hk : 0 ≤ k) : ∀ (l : List Int) (s : SetS) (w : List Int), n ≤ s.length * 64 → (∀ x ∈ l, 0 ≤ x ∧ x < n) → (hasS (reachPush s w l).1 k = true ↔ hasS s k = true ∨ k ∈ l) := by
  intro l
  induction l with
  | nil => intro s w _ _; simp [reachPush]
  | cons a l ih =>
    intro s w hs hl
    have ha := hl a (by simp)
    unfold reachPush
    split
    · rename_i h
      rw [ih s w hs fun x hx => hl x (by simp [hx])]
      constructor
      · rintro (h1 | h1)
        · exact .inl h1
        · exact .inr (by simp [h1])
      · rintro (h1 | h1)
        · exact .inl h1
        · rcases List.mem_cons.1 h1 with e | e
          · subst e; exact .inl h
          · exact .inr e
    · rw [ih (putS s a) (a :: w) (by rw [putS_length]; exact hs) fun x hx => hl x (by simp [hx]), hasS_put]
      have : a.toNat / 64 < s.length := by omega
      simp only [Bool.or_eq_true, Bool.and_eq_true, decide_eq_true_eq, List.mem_cons]
      constructor
      · rintro ((h1 | ⟨⟨h1, _⟩, _⟩) | h1)
        · exact .inl h1
        · exact .inr (.inl h1.symm)
        · exact .inr (.inr h1)
      · rintro (h1 | h1 | h1)
        · exact .inl (.inl h1)
        · subst h1
          exact .inl (.inr ⟨⟨rfl, hk⟩, this⟩)
        · exact .inr h1
theorem reachPush_work {n : Nat} : ∀ (l : List Int) (s : SetS) (w : List Int), n ≤ s.length * 64 → (∀ x ∈ l, 0 ≤ x ∧ x < n) → ∀ x, (x ∈ (reachPush s w l).2 → x ∈ w ∨ x ∈ l) ∧ (x ∈ w → x ∈ (reachPush s w l).2) ∧ (x ∈ l → hasS s x = false → x ∈ (reachPush s w l).2) := by
  intro l
  induction l with
  | nil => intro s w _ _ x; exact ⟨fun h => .inl h, fun h => h, fun h => by cases h⟩
  | cons a l ih =>
    intro s w hs hl x
    have ha := hl a (by simp)
    unfold reachPush
    split
    · rename_i h
      obtain ⟨i1, i2, i3⟩ := ih s w hs (fun x hx => hl x (by simp [hx])) x
      refine ⟨fun h1 => ?_, i2, fun h1 h2 => ?_⟩
      · rcases i1 h1 with h | h
        · exact .inl h
        · exact .inr (by simp [h])
      · rcases List.mem_cons.1 h1 with e | e
        · subst e; rw [h] at h2; cases h2
        · exact i3 e h2
    · obtain ⟨i1, i2, i3⟩ := ih (putS s a) (a :: w) (by rw [putS_length]; exact hs) (fun x hx => hl x (by simp [hx])) x
      refine ⟨fun h1 => ?_, fun h1 => i2 (by simp [h1]), fun h1 h2 => ?_⟩
      · rcases i1 h1 with h | h
        · rcases List.mem_cons.1 h with e | e
          · subst e; exact .inr (by simp)
          · exact .inl e
        · exact .inr (by simp [h])
      · by_cases e : x = a
        · subst e; exact i2 (by simp)
        · rcases List.mem_cons.1 h1 with e1 | e1
          · exact absurd e1 e
          · refine i3 e1 ?_
            rw [hasS_put, h2]
            simp
            intro e2
            exact absurd e2.symm e
theorem reachPush_lack {n : Nat} : ∀ (l : List Int) (s : SetS) (w : List Int), n ≤ s.length * 64 → (∀ x ∈ l, 0 ≤ x ∧ x < n) → lackS n (reachPush s w l).1 + (reachPush s w l).2.length = lackS n s + w.length := by
  intro l
  induction l with
  | nil => intro s w _ _; rfl
  | cons a l ih =>
    intro s w hs hl
    have ha := hl a (by simp)
    unfold reachPush
    split
    · exact ih s w hs fun x hx => hl x (by simp [hx])
    · rename_i h
      rw [ih (putS s a) (a :: w) (by rw [putS_length]; exact hs) fun x hx => hl x (by simp [hx])]
      have := lackS_put (n := n) (s := s) (k := a) ha.1 (by omega) (by simpa using h) (by omega)
      simp only [List.length_cons]
      omega
structure ReachV (bl : List BlockS) (s : SetS) (w : List Int) : Prop where
  len : bl.length ≤ s.length * 64
  sound : ∀ k : Int, 0 ≤ k → k < bl.length → hasS s k = true → Reach bl k
  work : ∀ x ∈ w, 0 ≤ x ∧ x < bl.length ∧ hasS s x = true
  done : ∀ k : Int, 0 ≤ k → k < bl.length → hasS s k = true → k ∈ w ∨ ∀ k' ∈ nextAt bl k, hasS s k' = true
theorem reachGo_ok {bl : List BlockS} (ht : tgtOK bl) : ∀ (m : Nat) (s : SetS) (w : List Int), ReachV bl s w → lackS bl.length s + w.length ≤ m → ReachV bl (reachGo bl m s w) [] := by
  intro m
  induction m with
  | zero =>
    intro s w h hm
    have : w = [] := List.length_eq_zero_iff.1 (by omega)
    subst this
    exact h
  | succ m ih =>
    intro s w h hm
    cases w with
    | nil => exact h
    | cons n w =>
      rw [reachGo]
      have hl : ∀ x ∈ nextAt bl n, 0 ≤ x ∧ x < bl.length := fun x hx => nextAt_in ht hx
      obtain ⟨n1, n2, n3⟩ := h.work n (by simp)
      have hlk := reachPush_lack (nextAt bl n) s w h.len hl
      refine ih _ _ ⟨by rw [reachPush_len]; exact h.len, fun k k0 k1 hk => ?_, fun x hx => ?_, fun k k0 k1 hk => ?_⟩ (by rw [hlk]; simp only [List.length_cons] at hm; omega)
      · rcases (reachPush_set k0 (nextAt bl n) s w h.len hl).1 hk with h1 | h1
        · exact h.sound k k0 k1 h1
        · exact .step (h.sound n n1 n2 n3) h1
      · rcases (reachPush_work (nextAt bl n) s w h.len hl x).1 hx with h1 | h1
        · obtain ⟨a1, a2, a3⟩ := h.work x (by simp [h1])
          exact ⟨a1, a2, reachPush_has _ _ _ a3⟩
        · obtain ⟨a1, a2⟩ := hl x h1
          exact ⟨a1, a2, (reachPush_set a1 (nextAt bl n) s w h.len hl).2 (.inr h1)⟩
      · by_cases hks : hasS s k = true
        · rcases h.done k k0 k1 hks with h1 | h1
          · rcases List.mem_cons.1 h1 with e | e
            · subst e
              exact .inr fun k' hk' => (reachPush_set (hl k' hk').1 _ s w h.len hl).2 (.inr hk')
            · exact .inl ((reachPush_work (nextAt bl n) s w h.len hl k).2.1 e)
          · exact .inr fun k' hk' => reachPush_has _ _ _ (h1 k' hk')
        · rcases (reachPush_set k0 (nextAt bl n) s w h.len hl).1 hk with h1 | h1
          · exact absurd h1 hks
          · exact .inl ((reachPush_work (nextAt bl n) s w h.len hl k).2.2 h1 (by simpa using hks))
theorem lackS_le (n : Nat) (s : SetS) : lackS n s ≤ n := by
  unfold lackS
  have := List.length_filter_le (fun i : Nat => !hasS s (i : Int)) (List.range n)
  simpa using this
theorem reached_ok {bl : List BlockS} (hpos : 0 < bl.length) (ht : tgtOK bl) : ReachV bl (reachedS bl) [] := by
  have he : (emptyS (bl.length : Int)).length = (bl.length + 63) / 64 := by rw [emptyS_length]; omega
  have h0 : ∀ k : Int, hasS (putS (emptyS (bl.length : Int)) 0) k = true → k = 0 := by
    intro k hk
    rw [hasS_put, hasS_empty] at hk
    simp at hk
    exact hk.1.1.symm
  unfold reachedS
  rw [if_neg (by omega)]
  refine reachGo_ok ht _ _ _ ⟨by rw [putS_length, he]; omega, fun k _ _ hk => ?_, fun x hx => ?_, fun k _ _ hk => ?_⟩ (by have := lackS_le bl.length (putS (emptyS (bl.length : Int)) 0); simp only [List.length_singleton]; omega)
  · rw [h0 k hk]; exact .zero
  · simp only [List.mem_singleton] at hx
    subst hx
    refine ⟨by omega, by omega, ?_⟩
    rw [hasS_put, he]
    simp
    exact .inr (by omega)
  · rw [h0 k hk]; exact .inl (by simp)
theorem reached_iff {bl : List BlockS} (hpos : 0 < bl.length) (ht : tgtOK bl) {k : Int} (h0 : 0 ≤ k) (h1 : k < bl.length) : hasS (reachedS bl) k = true ↔ Reach bl k := by
  have hv := reached_ok hpos ht
  refine ⟨hv.sound k h0 h1, fun h => ?_⟩
  clear h0 h1
  induction h with
  | zero => exact reached_zero hpos
  | step h hn ih =>
    have hin := h.in_ hpos ht
    rcases hv.done _ hin.1 hin.2 ih with h1 | h1
    · cases h1
    · exact h1 _ hn
def NoEq (b : BlockS) : Prop := ¬ (b.term.kind = 2 ∧ b.term.goto = b.term.els)
theorem turnT_noeq (bl : List BlockS) (t : TermS) : ¬ ((turnT bl t).kind = 2 ∧ (turnT bl t).goto = (turnT bl t).els) := by
  unfold turnT
  split
  · rename_i h; rintro ⟨h1, _⟩; rw [show t.kind = 2 from h1] at h; cases h
  · split
    · split
      · rintro ⟨h1, _⟩; cases h1
      · rename_i h; rintro ⟨_, h2⟩; exact h h2
    · rename_i h; rintro ⟨h1, _⟩; exact h h1
theorem turnAt_get (bl : List BlockS) (i j : Nat) (b : BlockS) (h : (turnAt bl i)[j]? = some b) : (i = j ∧ NoEq b) ∨ (i ≠ j ∧ bl[j]? = some b) := by
  unfold turnAt at h
  split at h
  · rename_i c hc
    rw [List.getElem?_set] at h
    split at h
    · rename_i e
      split at h
      · have h := Option.some.inj h
        subst h
        exact .inl ⟨e, turnT_noeq bl c.term⟩
      · cases h
    · rename_i e
      exact .inr ⟨e, h⟩
  · rename_i hn
    by_cases e : i = j
    · subst e; rw [hn] at h; cases h
    · exact .inr ⟨e, h⟩
theorem turnUp_ok {n : Nat} : ∀ (d : Nat) (bl : List BlockS), d ≤ n → bl.length = n → tgtOK bl → (∀ (j : Nat) (b : BlockS), j < n - d → bl[j]? = some b → NoEq b) → (∀ b ∈ turnUp n d bl, NoEq b) ∧ tgtOK (turnUp n d bl) ∧ (turnUp n d bl).length = n := by
  intro d
  induction d with
  | zero =>
    intro bl _ hl ht hb
    refine ⟨fun b hbm => ?_, ht, hl⟩
    obtain ⟨j, hj⟩ := List.mem_iff_getElem?.1 hbm
    exact hb j b (by have h1 := (List.getElem?_eq_some_iff.1 hj).1; have h2 : (turnUp n 0 bl).length = n := hl; omega) hj
  | succ d ih =>
    intro bl hd hl ht hb
    rw [turnUp]
    obtain ⟨t1, t2⟩ := turnAt_ok ht (n - (d + 1))
    refine ih _ (by omega) (by rw [t2]; exact hl) t1 fun j b hj hjb => ?_
    rcases turnAt_get bl _ j b hjb with ⟨_, h⟩ | ⟨h1, h2⟩
    · exact h
    · exact hb j b (by omega) h2
theorem turnS_ok {bl : List BlockS} (ht : tgtOK bl) : (∀ b ∈ turnS bl, NoEq b) ∧ tgtOK (turnS bl) ∧ (turnS bl).length = bl.length :=
  turnUp_ok bl.length bl (Nat.le_refl _) rfl ht fun j b hj => by omega
structure MeltV (n : Nat) (bl : List BlockS) : Prop where
  ne : ∀ b ∈ bl, NoEq b
  tgt : tgtOK bl
  len : bl.length = n
theorem meltAt_ok {n : Nat} {bl : List BlockS} (h : MeltV n bl) (i : Nat) (k : Int) : MeltV n (meltAt bl i k) := by
  cases hb : bl[i]? with
  | none =>
    have : meltAt bl i k = bl := by unfold meltAt; rw [hb]
    rw [this]; exact h
  | some b =>
    cases ho : bl[k.toNat]? with
    | none =>
      have : meltAt bl i k = bl := by unfold meltAt; rw [hb, ho]
      rw [this]; exact h
    | some o =>
      refine ⟨fun x hx => ?_, melt_tgt h.tgt hb ho, by rw [melt_len]; exact h.len⟩
      rw [melt_eq hb ho] at hx
      rcases List.mem_or_eq_of_mem_set hx with h1 | h1
      · rcases List.mem_or_eq_of_mem_set h1 with h2 | h2
        · exact h.ne x h2
        · rw [h2]; exact h.ne o (List.mem_of_getElem? ho)
      · rw [h1]; rintro ⟨h2, _⟩; cases h2
theorem meltGo_ok {n i : Nat} : ∀ (m : Nat) (bl : List BlockS) (r : SetS), MeltV n bl → MeltV n (meltGo i m bl r) := by
  intro m
  induction m with
  | zero => intro bl r h; exact h
  | succ m ih =>
    intro bl r h
    rw [meltGo]
    split
    · split
      · exact h
      · exact ih _ _ (meltAt_ok h _ _)
    · exact h
theorem meltI_ok {n : Nat} {bl : List BlockS} (h : MeltV n bl) (i : Nat) : MeltV n (meltI bl i) := by
  unfold meltI
  split
  · exact meltGo_ok _ _ _ h
  · exact h
theorem meltUp_ok {n q : Nat} : ∀ (d : Nat) (bl : List BlockS), MeltV n bl → MeltV n (meltUp q d bl) := by
  intro d
  induction d with
  | zero => intro bl h; exact h
  | succ d ih => intro bl h; rw [meltUp]; exact ih _ (meltI_ok h _)
theorem keptL_app (r : SetS) : ∀ (a b : List BlockS) (j : Nat), keptL r j (a ++ b) = keptL r j a ++ keptL r (j + a.length) b := by
  intro a
  induction a with
  | nil => intro b j; rfl
  | cons x a ih =>
    intro b j
    have e : j + (x :: a).length = j + 1 + a.length := by simp; omega
    rw [List.cons_append, keptL, keptL, ih b (j + 1), e]
    split <;> rfl
theorem keptL_len (r : SetS) : ∀ (bl : List BlockS) (j : Nat), (keptL r j bl).length ≤ bl.length := by
  intro bl
  induction bl with
  | nil => intro j; exact Nat.le_refl _
  | cons x a ih =>
    intro j
    have := ih (j + 1)
    rw [keptL]
    split <;> simp <;> omega
def posL (r : SetS) (bl : List BlockS) (k : Nat) : Nat := (keptL r 0 (bl.take k)).length
theorem kept_get {r : SetS} {bl : List BlockS} {k : Nat} {b : BlockS} (hb : bl[k]? = some b) (hk : hasS r (k : Int) = true) : (keptL r 0 bl)[posL r bl k]? = some b ∧ posL r bl (k + 1) = posL r bl k + 1 := by
  obtain ⟨h1, h2⟩ := List.getElem?_eq_some_iff.1 hb
  have e1 : bl = bl.take k ++ b :: bl.drop (k + 1) := by
    rw [← h2, ← List.drop_eq_getElem_cons h1, List.take_append_drop]
  have hl : (bl.take k).length = k := by simp; omega
  have hd : keptL r k (b :: bl.drop (k + 1)) = b :: keptL r (k + 1) (bl.drop (k + 1)) := by rw [keptL, if_pos hk]
  constructor
  · have e2 : keptL r 0 bl = keptL r 0 (bl.take k) ++ (b :: keptL r (k + 1) (bl.drop (k + 1))) := by
      have e3 : keptL r 0 bl = keptL r 0 (bl.take k ++ b :: bl.drop (k + 1)) := by rw [← e1]
      rw [e3, keptL_app, hl, Nat.zero_add, hd]
    rw [e2]
    unfold posL
    rw [List.getElem?_append_right (Nat.le_refl _), Nat.sub_self]; rfl
  · unfold posL
    rw [List.take_succ_eq_append_getElem h1, h2, keptL_app, hl, Nat.zero_add, List.length_append]
    have : keptL r k [b] = [b] := by rw [keptL, if_pos hk]; rfl
    rw [this]; rfl
theorem posL_mono (r : SetS) (bl : List BlockS) : ∀ (d k : Nat), posL r bl k ≤ posL r bl (k + d) := by
  intro d k
  have e : bl.take (k + d) = bl.take k ++ (bl.drop k).take d := by rw [List.take_add]
  unfold posL
  rw [e, keptL_app, List.length_append]
  omega
theorem pos_inj {r : SetS} {bl : List BlockS} {k1 k2 : Nat} {b1 b2 : BlockS} (h1 : bl[k1]? = some b1) (h2 : bl[k2]? = some b2) (q1 : hasS r (k1 : Int) = true) (q2 : hasS r (k2 : Int) = true) (he : posL r bl k1 = posL r bl k2) : k1 = k2 := by
  rcases Nat.lt_trichotomy k1 k2 with h | h | h
  · have g := (kept_get h1 q1).2
    have g2 := posL_mono r bl (k2 - (k1 + 1)) (k1 + 1)
    rw [show k1 + 1 + (k2 - (k1 + 1)) = k2 by omega] at g2
    omega
  · exact h
  · have g := (kept_get h2 q2).2
    have g2 := posL_mono r bl (k1 - (k2 + 1)) (k2 + 1)
    rw [show k2 + 1 + (k1 - (k2 + 1)) = k1 by omega] at g2
    omega
theorem kept_inv {r : SetS} : ∀ (bl : List BlockS) (j i : Nat), i < (keptL r j bl).length → ∃ k b, bl[k]? = some b ∧ hasS r ((j + k : Nat) : Int) = true ∧ (keptL r j (bl.take k)).length = i := by
  intro bl
  induction bl with
  | nil => intro j i h; simp [keptL] at h
  | cons x bl ih =>
    intro j i h
    rw [keptL] at h
    split at h
    · rename_i hx
      cases i with
      | zero => exact ⟨0, x, rfl, hx, rfl⟩
      | succ i =>
        obtain ⟨k, b, h1, h2, h3⟩ := ih (j + 1) i (by simpa using h)
        refine ⟨k + 1, b, by simpa using h1, by rw [show j + (k + 1) = j + 1 + k by omega]; exact h2, ?_⟩
        rw [List.take_succ_cons, keptL, if_pos hx, List.length_cons, h3]
    · rename_i hx
      obtain ⟨k, b, h1, h2, h3⟩ := ih (j + 1) i h
      refine ⟨k + 1, b, by simpa using h1, by rw [show j + (k + 1) = j + 1 + k by omega]; exact h2, ?_⟩
      rw [List.take_succ_cons, keptL, if_neg hx, h3]
theorem placesL_get (r : SetS) : ∀ (bl : List BlockS) (i n k : Nat), k < bl.length → (placesS r bl.length i n)[k]? = some ((n + (keptL r i (bl.take k)).length : Nat) : Int) := by
  intro bl
  induction bl with
  | nil => intro i n k h; simp at h
  | cons a bl ih =>
    intro i n k h
    cases k with
    | zero => simp [placesS, keptL]
    | succ k =>
      have hk : k < bl.length := by simpa using h
      rw [List.length_cons, placesS, List.getElem?_cons_succ, ih (i + 1) _ k hk, List.take_succ_cons, keptL]
      split
      · simp only [List.length_cons]; congr 2; omega
      · rfl
theorem dropS_ok {bl : List BlockS} (hpos : 0 < bl.length) (ht : tgtOK bl) (hne : ∀ b ∈ bl, NoEq b) : WaysOK bl (dropS bl) := by
  have hv := reached_ok hpos ht
  have hz := reached_zero hpos
  obtain ⟨r, hr⟩ : ∃ r, reachedS bl = r := ⟨_, rfl⟩
  have hriff : ∀ {k : Int}, 0 ≤ k → k < bl.length → (hasS r k = true ↔ Reach bl k) := fun h0 h1 => by rw [← hr]; exact reached_iff hpos ht h0 h1
  rw [hr] at hv hz
  obtain ⟨pl, hpl⟩ : ∃ pl, placesS r bl.length 0 0 = pl := ⟨_, rfl⟩
  have hdr : dropS bl = (keptL r 0 bl).map fun b => { b with term := placeT pl b.term } := by unfold dropS; rw [hr, hpl]
  have hplk : ∀ k : Int, 0 ≤ k → k < bl.length → pl[k.toNat]?.getD 0 = (posL r bl k.toNat : Int) := by
    intro k h0 h1
    have := placesL_get r bl 0 0 k.toNat (by omega)
    rw [hpl, Nat.zero_add] at this
    rw [this]; rfl
  have hclosed : ∀ {k : Nat} {b : BlockS}, bl[k]? = some b → hasS r (k : Int) = true → ∀ k' ∈ nextS b.term, (0 ≤ k' ∧ k' < bl.length) ∧ hasS r k' = true := by
    intro k b hb hk k' hk'
    have hin := ht b (List.mem_of_getElem? hb) k' hk'
    have hkl := (List.getElem?_eq_some_iff.1 hb).1
    refine ⟨hin, ?_⟩
    rcases hv.done (k : Int) (by omega) (by omega) hk with h1 | h1
    · cases h1
    · refine h1 k' ?_
      unfold nextAt
      rw [Int.toNat_natCast, hb]; exact hk'
  have hnext : ∀ {k : Nat} {b : BlockS}, bl[k]? = some b → hasS r (k : Int) = true → nextS (placeT pl b.term) = (nextS b.term).map fun k' => (posL r bl k'.toNat : Int) := by
    intro k b hb hk
    have hc := hclosed hb hk
    by_cases k1 : b.term.kind = 1
    · have e := nextS_1 k1
      rw [e] at hc ⊢
      have h1 := hc b.term.goto (by simp)
      unfold placeT
      rw [if_pos k1, nextS_1 (t := { b.term with goto := pl[b.term.goto.toNat]?.getD 0 }) k1, hplk _ h1.1.1 h1.1.2]; rfl
    · by_cases k2 : b.term.kind = 2
      · have e := nextS_2 k2
        rw [e] at hc ⊢
        have h1 := hc b.term.goto (by simp)
        have h2 := hc b.term.els (by simp)
        unfold placeT
        rw [if_neg k1, if_pos k2, nextS_2 (t := { b.term with goto := pl[b.term.goto.toNat]?.getD 0, els := pl[b.term.els.toNat]?.getD 0 }) k2, hplk _ h1.1.1 h1.1.2, hplk _ h2.1.1 h2.1.2]; rfl
      · have e : nextS b.term = [] := by unfold nextS; rw [if_neg k1, if_neg k2]
        unfold placeT
        rw [if_neg k1, if_neg k2, e]; rfl
  have hget : ∀ {k : Nat} {b : BlockS}, bl[k]? = some b → hasS r (k : Int) = true → (dropS bl)[posL r bl k]? = some { b with term := placeT pl b.term } := by
    intro k b hb hk
    rw [hdr, List.getElem?_map, (kept_get hb hk).1]; rfl
  have hinv : ∀ {i : Nat} {x : BlockS}, (dropS bl)[i]? = some x → ∃ (k : Nat) (b : BlockS), bl[k]? = some b ∧ hasS r (k : Int) = true ∧ posL r bl k = i ∧ x = { b with term := placeT pl b.term } := by
    intro i x hx
    have hi : i < (keptL r 0 bl).length := by
      have := (List.getElem?_eq_some_iff.1 hx).1
      rw [hdr, List.length_map] at this; exact this
    obtain ⟨k, b, h1, h2, h3⟩ := kept_inv bl 0 i hi
    rw [Nat.zero_add] at h2
    have h4 : posL r bl k = i := h3
    have := hget h1 h2
    rw [h4, hx] at this
    exact ⟨k, b, h1, h2, h4, Option.some.inj this⟩
  have hposw : 0 < (dropS bl).length := by
    obtain ⟨b0, hb0⟩ : ∃ b, bl[0]? = some b := ⟨_, List.getElem?_eq_getElem hpos⟩
    have := (List.getElem?_eq_some_iff.1 (hget hb0 hz)).1
    omega
  have htw : tgtOK (dropS bl) := by
    intro x hx q hq
    obtain ⟨i, hi⟩ := List.mem_iff_getElem?.1 hx
    obtain ⟨k, b, h1, h2, _, rfl⟩ := hinv hi
    have hq : q ∈ nextS (placeT pl b.term) := hq
    rw [hnext h1 h2] at hq
    obtain ⟨k', hk', rfl⟩ := List.mem_map.1 hq
    obtain ⟨hin, hkk⟩ := hclosed h1 h2 k' hk'
    obtain ⟨b', hb'⟩ : ∃ b', bl[k'.toNat]? = some b' := ⟨_, List.getElem?_eq_getElem (by omega)⟩
    have := (List.getElem?_eq_some_iff.1 (hget hb' (by rw [Int.toNat_of_nonneg hin.1]; exact hkk))).1
    omega
  have hreach : ∀ {k : Int}, Reach bl k → Reach (dropS bl) (posL r bl k.toNat : Int) := by
    intro k h
    induction h with
    | zero => exact .zero
    | step h hn ih =>
      rename_i k k'
      have hin := h.in_ hpos ht
      obtain ⟨b, hb⟩ : ∃ b, bl[k.toNat]? = some b := ⟨_, List.getElem?_eq_getElem (by omega)⟩
      have hk : hasS r ((k.toNat : Nat) : Int) = true := by rw [Int.toNat_of_nonneg hin.1]; exact (hriff hin.1 hin.2).2 h
      refine .step ih ?_
      unfold nextAt
      rw [Int.toNat_natCast, hget hb hk]
      show _ ∈ nextS (placeT pl b.term)
      rw [hnext hb hk]
      unfold nextAt at hn
      rw [hb] at hn
      exact List.mem_map_of_mem hn
  refine ⟨hposw, by rw [hdr, List.length_map]; exact keptL_len r bl 0, fun i x hx => ?_, htw⟩
  obtain ⟨k, b, h1, h2, h3, rfl⟩ := hinv hx
  have hil := (List.getElem?_eq_some_iff.1 hx).1
  have hkl := (List.getElem?_eq_some_iff.1 h1).1
  refine ⟨?_, ?_⟩
  · rw [reached_iff hposw htw (by omega) (by omega)]
    have := hreach ((hriff (by omega) (by omega)).1 h2)
    rw [Int.toNat_natCast, h3] at this
    exact this
  · rintro ⟨e1, e2⟩
    have hk2 : b.term.kind = 2 := by
      unfold placeT at e1
      split at e1
      · exact e1
      · split at e1
        · exact e1
        · exact e1
    have hc := hclosed h1 h2
    rw [nextS_2 hk2] at hc
    obtain ⟨g1, g2⟩ := hc b.term.goto (by simp)
    obtain ⟨g3, g4⟩ := hc b.term.els (by simp)
    have e2 : (placeT pl b.term).goto = (placeT pl b.term).els := e2
    unfold placeT at e2
    rw [if_neg (by omega), if_pos hk2] at e2
    have e2 : pl[b.term.goto.toNat]?.getD 0 = pl[b.term.els.toNat]?.getD 0 := e2
    rw [hplk _ g1.1 g1.2, hplk _ g3.1 g3.2] at e2
    obtain ⟨c1, hc1⟩ : ∃ c, bl[b.term.goto.toNat]? = some c := ⟨_, List.getElem?_eq_getElem (by omega)⟩
    obtain ⟨c2, hc2⟩ : ∃ c, bl[b.term.els.toNat]? = some c := ⟨_, List.getElem?_eq_getElem (by omega)⟩
    have := pos_inj hc1 hc2 (by rw [Int.toNat_of_nonneg g1.1]; exact g2) (by rw [Int.toNat_of_nonneg g3.1]; exact g4) (by omega)
    exact hne b (List.mem_of_getElem? h1) ⟨hk2, by omega⟩
theorem waysS_ok {bl : List BlockS} (hpos : 0 < bl.length) (ht : tgtOK bl) : WaysOK bl (waysS bl) := by
  obtain ⟨t1, t2, t3⟩ := turnS_ok ht
  have hm : MeltV bl.length (meltS (turnS bl)) := meltUp_ok _ _ ⟨t1, t2, t3⟩
  have := dropS_ok (bl := meltS (turnS bl)) (by rw [hm.len]; exact hpos) hm.tgt hm.ne
  exact ⟨this.pos, by have h := this.le; rw [hm.len] at h; exact h, this.ok, this.tgt⟩
end Go.Proofs.Ytjhloakacicdiaa
namespace Go.Proofs.Ytjhloakacicdiaa
open Go.AH
variable {H : Type} {enc : TypeId × Value → H} {G : Nat} {g0 : Nat → Option Blk} {W : World}
theorem RowΦ_list {T : Type} {R : Hp → List Value → T → Prop} {K : T → Prop} {w M : Nat} {h : Hp} {acs : List Value} (hr : RowΦ w M (fun h a => ∃ x, R h a x ∧ K x) h acs) :
    ∃ (A : Option Addr) (c : Nat) (l : List T), acs = [.slice A l.length c] ∧ SlAt h A w l (R h) ∧ (∀ x ∈ l, K x) ∧ l.length ≤ M ∧ l.length ≤ c ∧ c < capMark ∧ (A = none → c = 0) := by
  obtain ⟨A, c, accs, e, r, h1, h2, h3, h4⟩ := hr
  have build : ∀ al : List (List Value), (∀ a ∈ al, ∃ x, R h a x ∧ K x) → ∃ l : List T, l.length = al.length ∧ (∀ x ∈ l, K x) ∧ ∀ (i : Nat) (x : T), l[i]? = some x → ∃ a, al[i]? = some a ∧ R h a x := by
    intro al
    induction al with
    | nil => intro _; exact ⟨[], rfl, (fun x hx => by cases hx), fun i x hx => by simp at hx⟩
    | cons a al ih =>
      intro ha
      obtain ⟨x, hx, hk⟩ := ha a (by simp)
      obtain ⟨l, q1, q2, q3⟩ := ih fun b hb => ha b (by simp [hb])
      refine ⟨x :: l, by simp [q1], fun y hy => ?_, fun i y hy => ?_⟩
      · rcases List.mem_cons.1 hy with rfl | hy
        · exact hk
        · exact q2 y hy
      · cases i with
        | zero => simp at hy; subst hy; exact ⟨a, rfl, hx⟩
        | succ i => simpa using q3 i y (by simpa using hy)
  obtain ⟨l, q1, q2, q3⟩ := build accs fun a ha => (r.all a ha).1
  refine ⟨A, c, l, by rw [q1]; exact e, ⟨fun i x hx => ?_⟩, q2, by omega, by omega, h3, h4⟩
  obtain ⟨a, ha, hR⟩ := q3 i x hx
  have ham := List.mem_of_getElem? ha
  obtain ⟨b, e', hA, hb⟩ := r.at_ (fun hn => by rw [hn] at ham; cases ham)
  have hwid : ∀ x ∈ accs, x.length = w := fun x hx => (r.all x hx).2
  have hi := (List.getElem?_eq_some_iff.1 ha).1
  refine ⟨b, 0, accs.flatten, e', hA, hb, ?_, ?_⟩
  · rw [flat_len hwid]
    have : (i + 1) * w ≤ accs.length * w := Nat.mul_le_mul_right _ hi
    rw [Nat.succ_mul] at this; omega
  · have : takeV (0 + i * w) w accs.flatten = a := by
      rw [takeV_eq]
      apply List.ext_getElem?
      intro j
      rw [List.getElem?_take]
      by_cases hj : j < w
      · rw [if_pos hj, List.getElem?_drop, Nat.zero_add, flat_get hwid i j hj, ha]; rfl
      · rw [if_neg hj, List.getElem?_eq_none (by rw [hwid a ham]; omega)]
    rw [this]; exact hR
theorem i64_fit {n : Int} (h1 : IntKind.i64.min ≤ n) (h2 : n ≤ IntKind.i64.max) : fitI n := by
  have e1 : IntKind.i64.min = -9223372036854775808 := by decide
  have e2 : IntKind.i64.max = 9223372036854775807 := by decide
  rw [e1] at h1; rw [e2] at h2
  exact ⟨h1, h2⟩
def intΦ (_ : Hp) (acs : List Value) : Prop := ∃ n, acs = [.int .i64 n] ∧ fitI n
theorem D_int {t : TypeId} {cs : List Value} (ht : Try.prog.underlying t = some (.int .i64)) (h : TW enc Try.prog W t cs) : D G g0 W cs 0 intΦ := (D.int ht h).mono (Nat.le_refl _) fun _ _ _ ⟨n, e, h1, h2⟩ => ⟨n, e, i64_fit h1 h2⟩
theorem up_int : UpΦ intΦ := fun _ _ _ _ h => h
def argΦ (_ : Hp) (acs : List Value) : Prop := ∃ a, argR acs a ∧ ArgS.ok a
theorem up_arg : UpΦ argΦ := fun _ _ _ _ h => h
theorem D_arg {cs : List Value} (h : TW enc Try.prog W 43 cs) : D G g0 W cs 0 argΦ := by
  obtain ⟨hl, hf⟩ := h.fields (l := [(3, 0, 1), (2, 1, 1)]) (n := 2) (by kernel_rfl) (by kernel_rfl)
  have := SegD.d (g0 := g0) (G := G) (off := 0) (cs := cs) (W := W) (l := [(1, 0, intΦ), (1, 0, intΦ)]) ⟨up_int, D_int (by kernel_rfl) (hf (3, 0, 1) (by simp)), up_int, D_int (by kernel_rfl) (hf (2, 1, 1) (by simp)), hl⟩
  refine D.mono this (by simp [segN]) ?_
  rintro H acs _ ⟨_, _, rfl, ⟨a, rfl, ha⟩, _, _, rfl, ⟨b, rfl, hb⟩, rfl⟩
  exact ⟨⟨a, b⟩, rfl, ha, hb⟩
def argsΦ : Hp → List Value → Prop := RowΦ 2 reachBytes argΦ
def insΦ (h : Hp) (acs : List Value) : Prop := ∃ x, insR h acs x ∧ InsS.ok x
theorem up_ins : UpΦ insΦ := fun _ _ _ hm ⟨x, hx, hk⟩ => ⟨x, insR_mono hm hx, hk⟩
def boolΦ (_ : Hp) (acs : List Value) : Prop := ∃ b, acs = [.bool b]
theorem up_bool : UpΦ boolΦ := fun _ _ _ _ h => h
def strΦ (_ : Hp) (acs : List Value) : Prop := ∃ s : ByteArray, acs = [.string s] ∧ s.size ≤ reachBytes
theorem up_str : UpΦ strΦ := fun _ _ _ _ h => h
theorem D_ins {cs : List Value} (h : TW enc Try.prog W 64 cs) : D G g0 W cs 1 insΦ := by
  obtain ⟨hl, hf⟩ := h.fields (l := [(3, 0, 1), (3, 1, 1), (43, 2, 2), (43, 4, 2), (3, 6, 1), (4, 7, 1), (4, 8, 1), (3, 9, 1), (2, 10, 1), (62, 11, 1)]) (n := 12) (by kernel_rfl) (by kernel_rfl)
  have := SegD.d (g0 := g0) (G := G) (off := 0) (cs := cs) (W := W) (l := [(1, 0, intΦ), (1, 0, intΦ), (2, 0, argΦ), (2, 0, argΦ), (1, 0, intΦ), (1, 0, boolΦ), (1, 0, boolΦ), (1, 0, intΦ), (1, 0, intΦ), (1, reachBytes * 0 + 1, argsΦ)])
    ⟨up_int, D_int (by kernel_rfl) (hf (3, 0, 1) (by simp)), up_int, D_int (by kernel_rfl) (hf (3, 1, 1) (by simp)), up_arg, D_arg (hf (43, 2, 2) (by simp)), up_arg, D_arg (hf (43, 4, 2) (by simp)), up_int, D_int (by kernel_rfl) (hf (3, 6, 1) (by simp)), up_bool, D.bool (by kernel_rfl) (hf (4, 7, 1) (by simp)), up_bool, D.bool (by kernel_rfl) (hf (4, 8, 1) (by simp)), up_int, D_int (by kernel_rfl) (hf (3, 9, 1) (by simp)), up_int, D_int (by kernel_rfl) (hf (2, 10, 1) (by simp)), RowΦ.up up_arg, D.row (e := 43) up_arg (by kernel_rfl) (by kernel_rfl) (by decide) (Nat.le_of_ble_eq_true (by kernel_rfl)) (fun c hc => D_arg hc) (hf (62, 11, 1) (by simp)), hl⟩
  refine D.mono this (by simp [segN]) ?_
  rintro H acs _ ⟨_, _, rfl, ⟨op, rfl, h1⟩, _, _, rfl, ⟨dst, rfl, h2⟩, _, _, rfl, ⟨a, rfl, h3⟩, _, _, rfl, ⟨b, rfl, h4⟩, _, _, rfl, ⟨size, rfl, h5⟩, _, _, rfl, ⟨sg, rfl⟩, _, _, rfl, ⟨sc, rfl⟩, _, _, rfl, ⟨ref, rfl, h6⟩, _, _, rfl, ⟨off, rfl, h7⟩, _, _, rfl, hr, rfl⟩
  obtain ⟨A, c, l, rfl, hs, hk, hn, _⟩ := RowΦ_list (R := fun _ => argR) hr
  exact ⟨⟨op, dst, a, b, size, sg, sc, ref, off, l⟩, ⟨A, c, rfl, hs⟩, h1, h2, h3, h4, h5, h6, h7, Nat.le_trans hn (by decide), hk⟩
def termΦ (_ : Hp) (acs : List Value) : Prop := ∃ t, acs = termC t ∧ TermS.ok t
theorem up_term : UpΦ termΦ := fun _ _ _ _ h => h
theorem D_term {cs : List Value} (h : TW enc Try.prog W 45 cs) : D G g0 W cs 0 termΦ := by
  obtain ⟨hl, hf⟩ := h.fields (l := [(3, 0, 1), (3, 1, 1), (43, 2, 2), (43, 4, 2), (3, 6, 1), (3, 7, 1)]) (n := 8) (by kernel_rfl) (by kernel_rfl)
  have := SegD.d (g0 := g0) (G := G) (off := 0) (cs := cs) (W := W) (l := [(1, 0, intΦ), (1, 0, intΦ), (2, 0, argΦ), (2, 0, argΦ), (1, 0, intΦ), (1, 0, intΦ)])
    ⟨up_int, D_int (by kernel_rfl) (hf (3, 0, 1) (by simp)), up_int, D_int (by kernel_rfl) (hf (3, 1, 1) (by simp)), up_arg, D_arg (hf (43, 2, 2) (by simp)), up_arg, D_arg (hf (43, 4, 2) (by simp)), up_int, D_int (by kernel_rfl) (hf (3, 6, 1) (by simp)), up_int, D_int (by kernel_rfl) (hf (3, 7, 1) (by simp)), hl⟩
  refine D.mono this (by simp [segN]) ?_
  rintro H acs _ ⟨_, _, rfl, ⟨k, rfl, h1⟩, _, _, rfl, ⟨op, rfl, h2⟩, _, _, rfl, ⟨a, rfl, h3⟩, _, _, rfl, ⟨b, rfl, h4⟩, _, _, rfl, ⟨g, rfl, h5⟩, _, _, rfl, ⟨e, rfl, h6⟩, rfl⟩
  exact ⟨⟨k, op, a, b, g, e⟩, rfl, h1, h2, h3, h4, h5, h6⟩
def blockΦ (h : Hp) (acs : List Value) : Prop := ∃ x, blockR h acs x ∧ BlockS.ok x
theorem up_block : UpΦ blockΦ := fun _ _ _ hm ⟨x, hx, hk⟩ => ⟨x, blockR_mono hm hx, hk⟩
theorem D_block {cs : List Value} (h : TW enc Try.prog W 47 cs) : D G g0 W cs (reachBytes * 1 + 1) blockΦ := by
  obtain ⟨hl, hf⟩ := h.fields (l := [(41, 0, 1), (45, 1, 8)]) (n := 9) (by kernel_rfl) (by kernel_rfl)
  have := SegD.d (g0 := g0) (G := G) (off := 0) (cs := cs) (W := W) (l := [(1, reachBytes * 1 + 1, RowΦ 12 reachBytes insΦ), (8, 0, termΦ)])
    ⟨RowΦ.up up_ins, D.row (e := 64) up_ins (by kernel_rfl) (by kernel_rfl) (by decide) (Nat.le_of_ble_eq_true (by kernel_rfl)) (fun c hc => D_ins hc) (hf (41, 0, 1) (by simp)), up_term, D_term (hf (45, 1, 8) (by simp)), hl⟩
  refine D.mono this (by simp [segN]) ?_
  rintro H acs _ ⟨_, _, rfl, hr, _, _, rfl, ⟨t, rfl, ht⟩, rfl⟩
  obtain ⟨A, c, l, rfl, hs, hk, hn, _⟩ := RowΦ_list (R := insR) hr
  exact ⟨⟨l, t⟩, ⟨A, c, rfl, hs⟩, Nat.le_trans hn (by decide), hk, ht⟩
def funcΦ (h : Hp) (acs : List Value) : Prop := ∃ x, funcR h acs x ∧ FuncS.ok x
def nFunc : Nat := 1 + 1 + (reachBytes * (reachBytes * 1 + 1) + 1)
def byteΦ (_ : Hp) (acs : List Value) : Prop := ∃ n, byteR acs n ∧ (0 ≤ n ∧ n ≤ 255)
theorem up_byte : UpΦ byteΦ := fun _ _ _ _ h => h
theorem D_byte {cs : List Value} (h : TW enc Try.prog W 5 cs) : D G g0 W cs 0 byteΦ := (D.int (k := .u8) (by kernel_rfl) h).mono (Nat.le_refl _) fun _ _ _ ⟨n, e, h1, h2⟩ => by
  have e1 : IntKind.u8.min = 0 := by decide
  have e2 : IntKind.u8.max = 255 := by decide
  rw [e1] at h1; rw [e2] at h2
  exact ⟨n, e, h1, h2⟩
def partΦ (h : Hp) (acs : List Value) : Prop := ∃ x, partR h acs x ∧ PartS.ok x
theorem up_part : UpΦ partΦ := fun _ _ _ hm ⟨x, hx, hk⟩ => ⟨x, partR_mono hm hx, hk⟩
theorem D_part {cs : List Value} (h : TW enc Try.prog W 83 cs) : D G g0 W cs 1 partΦ := by
  obtain ⟨hl, hf⟩ := h.fields (l := [(3, 0, 1), (28, 1, 1), (3, 2, 1)]) (n := 3) (by kernel_rfl) (by kernel_rfl)
  have := SegD.d (g0 := g0) (G := G) (off := 0) (cs := cs) (W := W) (l := [(1, 0, intΦ), (1, reachBytes * 0 + 1, RowΦ 1 reachBytes byteΦ), (1, 0, intΦ)])
    ⟨up_int, D_int (by kernel_rfl) (hf (3, 0, 1) (by simp)), RowΦ.up up_byte, D.row (e := 5) up_byte (by kernel_rfl) (by kernel_rfl) (by decide) (Nat.le_of_ble_eq_true (by kernel_rfl)) (fun c hc => D_byte hc) (hf (28, 1, 1) (by simp)), up_int, D_int (by kernel_rfl) (hf (3, 2, 1) (by simp)), hl⟩
  refine D.mono this (by simp [segN]) ?_
  rintro H acs _ ⟨_, _, rfl, ⟨k, rfl, h1⟩, _, _, rfl, hr, _, _, rfl, ⟨n, rfl, h2⟩, rfl⟩
  obtain ⟨A, c, l, rfl, hs, hk, hn, _⟩ := RowΦ_list (R := fun _ => byteR) hr
  exact ⟨⟨k, l, n⟩, ⟨A, c, rfl, hs⟩, h1, h2, Nat.le_trans hn (by decide), hk⟩
def globΦ (h : Hp) (acs : List Value) : Prop := ∃ x, globR h acs x ∧ GlobS.ok x
theorem up_glob : UpΦ globΦ := fun _ _ _ hm ⟨x, hx, hk⟩ => ⟨x, globR_mono hm hx, hk⟩
theorem D_glob {cs : List Value} (h : TW enc Try.prog W 81 cs) : D G g0 W cs (reachBytes * 1 + 1) globΦ := by
  obtain ⟨hl, hf⟩ := h.fields (l := [(9, 0, 1), (3, 1, 1), (3, 2, 1), (79, 3, 1)]) (n := 4) (by kernel_rfl) (by kernel_rfl)
  have := SegD.d (g0 := g0) (G := G) (off := 0) (cs := cs) (W := W) (l := [(1, 0, strΦ), (1, 0, intΦ), (1, 0, intΦ), (1, reachBytes * 1 + 1, RowΦ 3 reachBytes partΦ)])
    ⟨up_str, D.string (by kernel_rfl) (hf (9, 0, 1) (by simp)), up_int, D_int (by kernel_rfl) (hf (3, 1, 1) (by simp)), up_int, D_int (by kernel_rfl) (hf (3, 2, 1) (by simp)), RowΦ.up up_part, D.row (e := 83) up_part (by kernel_rfl) (by kernel_rfl) (by decide) (Nat.le_of_ble_eq_true (by kernel_rfl)) (fun c hc => D_part hc) (hf (79, 3, 1) (by simp)), hl⟩
  refine D.mono this (by simp [segN]) ?_
  rintro H acs _ ⟨_, _, rfl, ⟨nm, rfl, _⟩, _, _, rfl, ⟨pl, rfl, h1⟩, _, _, rfl, ⟨sz, rfl, h2⟩, _, _, rfl, hr, rfl⟩
  obtain ⟨A, c, l, rfl, hs, hk, hn, _⟩ := RowΦ_list (R := partR) hr
  exact ⟨⟨nm, pl, sz, l⟩, ⟨A, c, rfl, hs⟩, h1, h2, Nat.le_trans hn (by decide), hk⟩
def progΦ (h : Hp) (acs : List Value) : Prop := ∃ x, progR h acs x ∧ ProgS.ok x
def nProg : Nat := reachBytes * nFunc + 1 + (reachBytes * (reachBytes * 1 + 1) + 1)
end Go.Proofs.Ytjhloakacicdiaa
namespace Go.Proofs.Ytjhloakacicdiaa
open Go.AH
variable {H : Type} {enc : TypeId × Value → H} {G : Nat} {g0 : Nat → Option Blk} {W : World}
def boolΨ (_ : Hp) (acs : List Value) : Prop := ∃ b, boolR acs b ∧ True
theorem up_boolΨ : UpΦ boolΨ := fun _ _ _ _ h => h
theorem D_boolΨ {cs : List Value} (h : TW enc Try.prog W 4 cs) : D G g0 W cs 0 boolΨ := (D.bool (by kernel_rfl) h).mono (Nat.le_refl _) fun _ _ _ ⟨b, e⟩ => ⟨b, e, trivial⟩
def funcΨ (h : Hp) (acs : List Value) : Prop := ∃ x, funcRS h acs x ∧ FuncS.ok x
theorem up_funcΨ : UpΦ funcΨ := fun _ _ _ hm ⟨x, hx, hk⟩ => ⟨x, funcRS_mono hm hx, hk⟩
theorem D_funcΨ {cs : List Value} (h : TW enc Try.prog W 35 cs) : D G g0 W cs nFunc funcΨ := by
  obtain ⟨hl, hf⟩ := h.fields (l := [(9, 0, 1), (3, 1, 1), (31, 2, 1), (3, 3, 1), (32, 4, 1), (33, 5, 1)]) (n := 6) (by kernel_rfl) (by kernel_rfl)
  have := SegD.d (g0 := g0) (G := G) (off := 0) (cs := cs) (W := W) (l := [(1, 0, strΦ), (1, 0, intΦ), (1, reachBytes * 0 + 1, RowΦ 1 reachBytes boolΨ), (1, 0, intΦ), (1, reachBytes * 0 + 1, RowΦ 1 reachBytes intΦ), (1, reachBytes * (reachBytes * 1 + 1) + 1, RowΦ 9 reachBytes blockΦ)])
    ⟨up_str, D.string (by kernel_rfl) (hf (9, 0, 1) (by simp)), up_int, D_int (by kernel_rfl) (hf (3, 1, 1) (by simp)), RowΦ.up up_boolΨ, D.row (e := 4) up_boolΨ (by kernel_rfl) (by kernel_rfl) (by decide) (Nat.le_of_ble_eq_true (by kernel_rfl)) (fun c hc => D_boolΨ hc) (hf (31, 2, 1) (by simp)), up_int, D_int (by kernel_rfl) (hf (3, 3, 1) (by simp)), RowΦ.up up_int, D.row (e := 3) up_int (by kernel_rfl) (by kernel_rfl) (by decide) (Nat.le_of_ble_eq_true (by kernel_rfl)) (fun c hc => D_int (by kernel_rfl) hc) (hf (32, 4, 1) (by simp)), RowΦ.up up_block, D.row (e := 47) up_block (by kernel_rfl) (by kernel_rfl) (by decide) (Nat.le_of_ble_eq_true (by kernel_rfl)) (fun c hc => D_block hc) (hf (33, 5, 1) (by simp)), hl⟩
  refine D.mono this (by simp [segN, nFunc]; omega) ?_
  rintro H acs _ ⟨_, _, rfl, ⟨nm, rfl, _⟩, _, _, rfl, ⟨pa, rfl, h1⟩, _, _, rfl, hr1, _, _, rfl, ⟨rg, rfl, h2⟩, _, _, rfl, hr2, _, _, rfl, hr3, rfl⟩
  obtain ⟨A1, c1, l1, rfl, hs1, _, hn1, _⟩ := RowΦ_list (R := fun _ => boolR) (K := fun _ => True) hr1
  obtain ⟨A2, c2, l2, rfl, hs2, hk2, hn2, _⟩ := RowΦ_list (R := fun _ => intR) (K := fitI) hr2
  obtain ⟨A3, c3, l3, rfl, hs3, hk3, hn3, _⟩ := RowΦ_list (R := blockR) hr3
  exact ⟨⟨nm, pa, l1.length, rg, l2, l3⟩, ⟨A1, c1, A2, c2, A3, c3, l1, rfl, rfl, hs1, hs2, hs3⟩, h1, h2, Nat.le_trans hn1 (by decide), Nat.le_trans hn2 (by decide), hk2, Nat.le_trans hn3 (by decide), hk3⟩
def progΨ (h : Hp) (acs : List Value) : Prop := ∃ p A1 c1 A2 c2, acs = progC p A1 c1 A2 c2 ∧ SlAt h A1 6 p.funcs (funcRS h) ∧ SlAt h A2 4 p.globals (globR h) ∧ p.ok
theorem D_progΨ {cs : List Value} (h : TW enc Try.prog W 25 cs) : D G g0 W cs nProg progΨ := by
  obtain ⟨hl, hf⟩ := h.fields (l := [(22, 0, 1), (23, 1, 1), (3, 2, 1), (3, 3, 1)]) (n := 4) (by kernel_rfl) (by kernel_rfl)
  have := SegD.d (g0 := g0) (G := G) (off := 0) (cs := cs) (W := W) (l := [(1, reachBytes * nFunc + 1, RowΦ 6 reachBytes funcΨ), (1, reachBytes * (reachBytes * 1 + 1) + 1, RowΦ 4 reachBytes globΦ), (1, 0, intΦ), (1, 0, intΦ)])
    ⟨RowΦ.up up_funcΨ, D.row (e := 35) up_funcΨ (by kernel_rfl) (by kernel_rfl) (by decide) (Nat.le_of_ble_eq_true (by kernel_rfl)) (fun c hc => D_funcΨ hc) (hf (22, 0, 1) (by simp)), RowΦ.up up_glob, D.row (e := 81) up_glob (by kernel_rfl) (by kernel_rfl) (by decide) (Nat.le_of_ble_eq_true (by kernel_rfl)) (fun c hc => D_glob hc) (hf (23, 1, 1) (by simp)), up_int, D_int (by kernel_rfl) (hf (3, 2, 1) (by simp)), up_int, D_int (by kernel_rfl) (hf (3, 3, 1) (by simp)), hl⟩
  refine D.mono this (by simp [segN, nProg]) ?_
  rintro H acs _ ⟨_, _, rfl, hr1, _, _, rfl, hr2, _, _, rfl, ⟨d, rfl, h1⟩, _, _, rfl, ⟨m, rfl, h2⟩, rfl⟩
  obtain ⟨A1, c1, l1, rfl, hs1, hk1, hn1, _⟩ := RowΦ_list (R := funcRS) hr1
  obtain ⟨A2, c2, l2, rfl, hs2, hk2, hn2, _⟩ := RowΦ_list (R := globR) hr2
  exact ⟨⟨l1, l2, d, m⟩, A1, c1, A2, c2, rfl, hs1, hs2, Nat.le_trans hn1 (by decide), hk1, Nat.le_trans hn2 (by decide), hk2, h1, h2⟩
end Go.Proofs.Ytjhloakacicdiaa
namespace Go.Proofs.Ytjhloakacicdiaa
open Go.AH Go.ChangeShapes Go.WideShapes Go.ChangeAt Go.RowKit
variable {H : Type} {enc : TypeId × Value → H} {W : World} {G : Nat} {g0 : Nat → Option Blk}
theorem trodAll_below {P : Program} (hl : laidOutB P = true) {W W' : World} (hb : Below W.heap.size W W') : ∀ {ts : List TypeId} {vs : List Value} {ds : List (DataW H)} {ps : List MemPlace}, (∀ t ∈ ts, P.readableRec t = true ∧ t < P.types.size) → (∀ x ∈ ps, x.block < W.heap.size) → DataW.TrodAll enc P W 0 (fun _ => true) true ts vs ds ps → DataW.TrodAll enc P W' 0 (fun b => decide (b < W.heap.size)) true ts vs ds ps := by
  intro ts
  induction ts with
  | nil =>
    intro vs ds ps _ _ h
    cases vs with
    | nil => cases ds with
      | nil => exact h
      | cons d ds => exact h.elim
    | cons v vs => exact h.elim
  | cons t ts ih =>
    intro vs ds ps ht hx h
    cases vs with
    | nil => exact h.elim
    | cons v vs =>
      cases ds with
      | nil => exact h.elim
      | cons d ds =>
        obtain ⟨p, q, h1, h2, rfl⟩ := h
        exact ⟨p, q, Below.trod hl (ht t (by simp)).1 (ht t (by simp)).2 h1 hb fun x hx' => hx x (by simp [hx']), ih (fun t ht' => ht t (by simp [ht'])) (fun x hx' => hx x (by simp [hx'])) h2, rfl⟩
theorem Try.own : ownKnob Try.prog.godebug = none := by kernel_rfl
theorem Try.laidOut : laidOutB Try.prog = true := by kernel_rfl
theorem handed_weighed {a : Assume} {C : Checked} {os : Os} {f : FuncId} {fn : Func} {s : ChangeSpec} {conds : List PathCond} {apart fresh handsOn again : Bool}
    (own : ownKnob C.prog.godebug = none) (started : os.Started) (noInit : C.prog.inits.idxOf? f = none) (hfn : C.prog.funcs[f]? = some fn)
    (witness : ∃ (w : World) (tape : Tape) (i : Input), w.os = os ∧ (w.forCall tape i).Shaped C.prog ∧ i.vars = [] ∧ Input.okWide C.prog (w.forCall tape i) .any w.heap.size f i ∧
      s.pre6 enc C.prog fn conds apart (w.forCall tape i).memory i.args ∧ a.holds C.prog (lone (Frame.enter C.prog f i.args .normal) [] (w.forCall tape i)))
    (contract : ∀ (W : World) (base : Nat) (args : Array Value) (ds gs : List (DataW H)) (before : List MemPlace),
      (∀ (j : Nat) t v, fn.params[j]? = some t → args[j]? = some v → Value.okWide C.prog W .any base t v) →
      DataW.Whole enc C.prog fn.params.toList s.vars apart W args.toList ds gs before →
      (DataW.weightsEach C.prog (fn.params.toList ++ s.plain.varTypes C.prog) (ds ++ gs)).all (· ≤ reachBytes) = true →
      Calls C.prog f args W fun e W' => ∃ v, e = .returned v ∧ s.post enc C.prog fn apart fresh handsOn again W args v W') :
    ReturnsInHanded a C os f .any (s.pre6 enc C.prog fn conds apart) (s.post enc C.prog fn apart fresh handsOn again) := by
  refine returnsInHanded_of_calls own started noInit witness ?_
  intro w tape i _ _ _ hok hpre _
  obtain ⟨_, _, _, fn', hfn', _, _, _, _, hval⟩ := hok
  have e : fn' = fn := Option.some.inj (hfn'.symm.trans hfn)
  subst e
  obtain ⟨⟨ds, gs, before, hw, _⟩, hz⟩ := hpre
  have hw' := DataW.Whole.of_heap (w' := w.forCall tape i) (by rfl) hw
  refine (contract (w.forCall tape i) w.heap.size i.args ds gs before hval hw' (hz.weights hw)).mono fun e W' ⟨v, he, hp⟩ => ?_
  subst he
  exact ChangeSpec.post_blind hp
theorem TW.of {P : Program} {W : World} {t : TypeId} {v : Value} {d : DataW H} {p : List MemPlace} (h : DataW.Trod enc P W 0 (fun _ => true) true t v d p) (hw : okW (d.weights P t)) : TW enc P W t v.cells.toList := by
  obtain ⟨fuel, h⟩ := h
  exact ⟨fuel, (d, p), h, hw⟩
theorem shutB {P : Program} {W : World} {base : Nat} {sp : Nat → Bool} {held : Bool} {t : TypeId} {b : Bool} (ht : P.underlying t = some .bool) : DataW.Trod enc P W base sp held t (.bool b) (.lit (.bool b)) [] := ⟨1, by simp [DataW.trod, Value.cells, ht]⟩
end Go.Proofs.Ytjhloakacicdiaa
namespace Go.Proofs.Ytjhloakacicdiaa
open Go.AH Go.ChangeShapes Go.WideShapes Go.ChangeAt Go.RowKit
set_option maxRecDepth 100000 in
theorem deadWays_lifted (os : Os) (started : os.Started) (H : Type) (enc : TypeId × Value → H) :
    ReturnsInHanded {} Try.checked os 3 .any (Rows.deadWaysSpec.pre6 enc Try.prog Try.f3 Rows.deadWaysRow.domain false) (Rows.deadWaysSpec.post enc Try.prog Try.f3 false true false false) := by
  refine handed_weighed (C := Try.checked) Try.own started (by kernel_rfl) Try.func3
    (ChangeSpec.witness6 (enc := enc) (C := Try.checked) false ⟨#[], #[.agg #[.slice none 0 0, .slice none 0 0, .int .i64 0, .int .i64 0]], []⟩ 8 (by kernel_rfl) (by kernel_rfl) (by kernel_rfl) (by kernel_rfl)) ?_
  intro W base args ds gs before hval0 hW hwt0
  have hval : ∀ (j : Nat) t v, Try.f3.params[j]? = some t → args[j]? = some v → Value.okWide Try.prog W .any base t v := hval0
  have hwt : (DataW.weightsEach Try.prog (Try.f3.params.toList ++ Rows.deadWaysSpec.plain.varTypes Try.prog) (ds ++ gs)).all (· ≤ reachBytes) = true := hwt0
  have hW' : DataW.Whole enc Try.prog Try.f3.params.toList Rows.deadWaysSpec.vars false W args.toList ds gs before := hW
  obtain ⟨p, q, hA0, hV, hbe, hfz, hnd⟩ := hW
  have hA : DataW.TrodAll enc Try.prog W 0 (fun _ => true) true Try.f3.params.toList args.toList ds p := hA0
  have hpar : Try.f3.params = #[25] := by kernel_rfl
  have hA1 := hA
  rw [hpar] at hA1 hval hwt
  obtain ⟨v0, d0, rfl, rfl, h0⟩ := trodAll_one hA1
  obtain ⟨rfl, rfl⟩ := trodVars_none hV
  have hw3 : (DataW.weightsEach Try.prog [25] [d0]).all (fun x => decide (x ≤ reachBytes)) = true := hwt
  simp only [DataW.weightsEach, List.all_append, Bool.and_eq_true] at hw3
  have hk0 : okW (d0.weights Try.prog 25) := fun n hn => by simpa using List.all_eq_true.1 hw3.1 n hn
  obtain ⟨cs0, rfl, hz0⟩ := okWide_struct Try.underlying25 (hval 0 25 v0 rfl rfl)
  have t0 : TW enc Try.prog W 25 cs0.toList := TW.of h0 hk0
  obtain ⟨ws, acs, hlay, hlen, hmap, hbd, pr, P1, e1, P2, e2, rfl, hfs, hgs, hok⟩ := D_progΨ (G := Try.prog.globals.size) (g0 := fun _ => none) t0 [] ⟨fun i w b h => by simp at h, fun i w b h => by simp at h⟩
  rw [List.nil_append] at hlay hmap hbd hfs hgs
  have hG : Try.prog.globals.size + ws.length ≤ rwM := Nat.le_trans (Nat.add_le_add_left hlen _) (Nat.le_of_ble_eq_true (by kernel_rfl))
  have ec0 : cs0 = ⟨(progC pr P1 e1 P2 e2).map (ren (envW Try.prog.globals.size ws))⟩ := by rw [hmap]
  have hN : (hpW Try.prog.globals.size (fun _ => none) ws).n = rwM := hpW_n _ _ _
  have hb0 : ∀ v ∈ progC pr P1 e1 P2 e2, bnd (hpW Try.prog.globals.size (fun _ => none) ws).n v := fun v hv => by rw [hN]; exact bnd_mono hG v (hbd v hv)
  have ht := DeadWays_tf (hpW Try.prog.globals.size (fun _ => none) ws) pr hok P1 e1 P2 e2 hfs hgs fun f _ ho => waysS_ok ho.pos ho.tgt
  have hh := TF.below ht (fun i b h => h) (by
    intro x hx
    have hx : x = Value.agg ⟨progC pr P1 e1 P2 e2⟩ := by simpa using hx
    subst hx
    rw [bnd_agg]; exact fun v hv => hb0 v (by simpa using hv)) (Lay.hok hlay hG (fun i b _ h => by cases h))
  have hargs : (⟨[.agg ⟨progC pr P1 e1 P2 e2⟩]⟩ : Array Value).map (ren (envW Try.prog.globals.size ws)) = #[.agg cs0] := by
    rw [ec0]
    simp only [List.map_toArray, List.map_cons, List.map_nil, ren_agg]
  rw [hargs] at hh
  refine hh.mono fun e W' ⟨⟨ρ', he⟩, hb⟩ => ?_
  have hres : DataW.TrodAll enc Try.prog W' W.heap.size (fun _ => false) false [4] [.bool true] [.lit (.bool true)] [] := trodAll_mk1 (shutB (by kernel_rfl))
  refine ⟨.bool true, by simpa using he, [d0], [], before, [], p, [], hW', hres, ?_, rfl, Below.frame hb _, fun h => by cases h⟩
  refine trodAll_below Try.laidOut hb (ts := Try.f3.params.toList) (fun t ht => ?_) (fun x hx => hW'.lt x (by rw [hbe, List.append_nil]; exact hx)) hA
  rw [hpar] at ht
  have ht : t = 25 := by simpa using ht
  subst ht
  exact ⟨by kernel_rfl, of_decide_eq_true (by kernel_rfl)⟩
theorem deadWays_holds : Rows.DeadWaysSaid :=
  OpenClaim.holds_of_wide 3 Try.f3 rfl rfl rfl rfl rfl rfl rfl ⟨rfl, rfl, rfl, rfl, rfl⟩ rfl rfl rfl rfl rfl (by kernel_rfl) Try.func3 (by kernel_rfl)
    (of_decide_eq_true (by kernel_rfl)) (by unfold Func.isWrapper; rw [if_neg (by decide +kernel)]; exact ⟨rfl, rfl⟩)
    (fun os started H enc _ => deadWays_lifted os started H enc)
end Go.Proofs.Ytjhloakacicdiaa
