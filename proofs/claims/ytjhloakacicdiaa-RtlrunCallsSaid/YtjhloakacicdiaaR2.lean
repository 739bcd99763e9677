/-
  What the functions of rtlrun compute, told by a plain interpreter; it holds of programs that pass the check of right form and are light.
-/
import Derived.Test.YtjhloakacicdiaaR1
import Derived.Test.YtjhloakacicdiaaS2
set_option linter.unusedVariables false
set_option linter.unusedSimpArgs false
namespace Go.Proofs.Ytjhloakacicdiaa
open Go.AH
attribute [local irreducible] W RS
def lightG (g : GlobS) : Bool := decide (g.place ≤ 4096) && decide (g.size ≤ 4096) && decide (g.parts.length ≤ 50) && g.parts.all (fun x => decide (x.data.length ≤ 4096))
def lightI : List InsS → Nat → Option Nat
  | [], n => some n
  | x :: l, n => if n + x.args.length ≤ 4000 ∧ -1073741824 ≤ x.off ∧ x.off ≤ 1073741824 then lightI l (n + x.args.length) else none
def lightB : List BlockS → Nat → Option Nat
  | [], n => some n
  | b :: l, n => if n + b.ins.length ≤ 2000 then (lightI b.ins (n + b.ins.length)).bind (lightB l) else none
def lightS (f : FuncS) : Bool := f.slots.all (fun s => decide (0 ≤ s) && decide (s ≤ 1000) && decide (f.slots.length ≤ 4))
def lightF : List FuncS → Nat → Option Nat
  | [], n => some n
  | f :: l, n => if n + (1 + f.blocks.length + f.slots.length) ≤ 2000 ∧ 0 ≤ f.regs ∧ f.regs ≤ 300 ∧ lightS f = true then (lightB f.blocks (n + (1 + f.blocks.length + f.slots.length))).bind (lightF l) else none
def lightP (p : ProgS) : Bool := decide (p.funcs.length ≤ 20) && decide (p.globals.length ≤ 20) && decide (0 ≤ p.data) && decide (p.data ≤ 4096) && p.globals.all lightG && (lightF p.funcs 0).isSome
theorem drop_get {α : Type} {l : List α} {i : Nat} {x : α} (h : l[i]? = some x) : l.drop i = x :: l.drop (i + 1) := by
  have hlt := (List.getElem?_eq_some_iff.1 h).1
  rw [List.drop_eq_getElem_cons hlt]
  rw [List.getElem?_eq_getElem hlt] at h
  injection h with h
  rw [h]
theorem lightP_no {p : ProgS} (h : ¬ lightP p = true) : lightP p = false := by simpa using h
theorem lightP_of {p : ProgS} (h1 : p.funcs.length ≤ 20) (h2 : p.globals.length ≤ 20) (h3 : 0 ≤ p.data) (h4 : p.data ≤ 4096) (h5 : p.globals.all lightG = true) : lightP p = (lightF p.funcs 0).isSome := by
  unfold lightP
  simp [h1, h2, h3, h4, h5]
set_option maxHeartbeats 2000000 in
set_option maxRecDepth 100000 in
theorem Light_tf (p : ProgS) (hok : p.ok) (h : Hp) (P1 : Option Addr) (d1 : Nat) (P2 : Option Addr) (d2 : Nat) (hfs : SlAt h P1 6 p.funcs (funcR h)) (hgs : SlAt h P2 4 p.globals (globR h)) :
    TF Try.prog 14 ⟨[.agg ⟨progC p P1 d1 P2 d2⟩]⟩ h (.bool (lightP p)) h := by
  refine TF.dom fun hd => ?_
  have hnf := hok.nfuncs
  have hng := hok.nglobs
  refine TF.still (fn := Try.f14) (c := (Try.f14.body.getD .skip)) Try.func14 (by kernel_rfl) Try.ntmps14 (by kernel_rfl) (by simp) ?_
  conv => arg 2; whnf
  repeat (first | ((with_reducible apply RS.move); exact rfl; exact rfl; exact rfl) | ((with_reducible apply RS.assign); exact rfl; exact rfl; exact rfl) | ((with_reducible apply RS.cmpC); exact rfl; exact rfl; exact rfl; exact rfl; exact rfl) | ((with_reducible apply RS.lenSl); exact rfl; exact rfl; exact rfl) | ((with_reducible apply RS.fieldAddr); exact rfl; exact rfl; exact rfl) | ((with_reducible apply RS.load1); exact rfl; exact rfl; exact rfl; exact rfl; exact rfl; exact rfl) | ((with_reducible apply RS.box); exact rfl; exact rfl; exact rfl) | ((with_reducible apply RS.nil); exact mixed; kernel_rfl) | ((with_reducible apply W.seq)) | ((with_reducible apply W.reg); kernel_rfl) | ((with_reducible apply thenK_n)))
  repeat' ((first | (((with_reducible apply RS.splitD); exact rfl; exact rfl) <;> intro _) | ((((with_reducible apply RS.splitG); exact rfl; exact rfl) <;> intro _) <;> (fail_if_success (exact absurd ‹true = false› (by decide))) <;> (fail_if_success (exact absurd ‹false = true› (by decide)))) | (((with_reducible apply W.condD); exact rfl) <;> intro _) | ((((with_reducible apply W.cond); exact rfl) <;> intro _) <;> (fail_if_success (exact absurd ‹true = false› (by decide))) <;> (fail_if_success (exact absurd ‹false = true› (by decide))))) <;> repeat (first | ((with_reducible apply RS.move); exact rfl; exact rfl; exact rfl) | ((with_reducible apply RS.assign); exact rfl; exact rfl; exact rfl) | ((with_reducible apply RS.pickT); exact rfl; exact rfl; exact rfl; exact rfl) | ((with_reducible apply RS.pickF); exact rfl; exact rfl; exact rfl; exact rfl) | ((with_reducible apply RS.cmpC); exact rfl; exact rfl; exact rfl; exact rfl; exact rfl) | ((with_reducible apply RS.lenSl); exact rfl; exact rfl; exact rfl) | ((with_reducible apply RS.fieldAddr); exact rfl; exact rfl; exact rfl) | ((with_reducible apply RS.load1); exact rfl; exact rfl; exact rfl; exact rfl; exact rfl; exact rfl) | ((with_reducible apply RS.skip); exact rfl; exact rfl) | ((with_reducible apply RS.nil); exact mixed; kernel_rfl) | ((with_reducible apply W.seq)) | ((with_reducible apply W.reg); kernel_rfl) | ((with_reducible apply W.block)) | ((with_reducible apply W.ret)) | ((with_reducible apply W.skip)) | ((with_reducible apply W.condT); kernel_rfl; exact rfl) | ((with_reducible apply thenK_n)) | ((with_reducible apply thenK_r))))
  rotate_left 4
  · rename_i u1 u2 u3 u4
    have hhead : p.globals.all lightG = true → lightP p = (lightF p.funcs 0).isSome := fun hz => lightP_of (by omega) (by omega) (by omega) (by omega) hz
    have hgno : p.globals.all lightG = false → lightP p = false := fun hz => by unfold lightP; rw [hz]; simp
    refine W.loop (X := Nat) (fun π i => [(1, .pointer (some ⟨π 0, 0, none⟩)), (3, .int .i64 0), (37, .slice P2 p.globals.length d2), (38, .int .i64 p.globals.length), (39, .int .i64 i)]) (fun _ => h) (fun π i => [(0, some ⟨⟨progC p P1 d1 P2 d2⟩, 25⟩)]) (fun i => i ≤ p.globals.length ∧ p.globals.all lightG = (p.globals.drop i).all lightG) (fun i => p.globals.length - i) [0] 0 ⟨Nat.zero_le _, rfl⟩ (by (refine FitL.mk ?_ ?_ ?_ ?_ <;> (repeat' (first | exact trivial | exact rfl | apply And.intro)); done)) ?_
    intro π i hI
    obtain ⟨hi, hI⟩ := hI
    dsimp only at hi hI ⊢
    by_cases hlt : i < p.globals.length
    · obtain ⟨g, hg⟩ : ∃ g, p.globals[i]? = some g := ⟨_, List.getElem?_eq_getElem hlt⟩
      obtain ⟨gb, go, gcs, ge, rfl, hG, hGl, hGv⟩ := hgs.get i g hg
      have hGn := hd _ _ hG
      obtain ⟨A', c', hGv, hGs⟩ := hGv
      have hgm := hok.globs g (List.mem_of_getElem? hg)
      have hgn := hgm.nparts
      rw [all_drop hg] at hI
      have hgf : lightG g = false → lightP p = false := fun hz => hgno (by rw [hI, hz]; rfl)
      repeat (first | ((with_reducible apply RS.indexAddrS); exact rfl; exact rfl; exact rfl; exact rfl; exact rfl; omega) | ((with_reducible apply RS.loadNB); exact rfl; exact rfl; exact rfl; exact hG; exact hGn; exact hGl; exact hGv) | ((with_reducible apply RS.move); exact rfl; exact rfl; exact rfl) | ((with_reducible apply RS.cmpT); exact rfl; exact rfl; exact rfl; exact rfl; (simp only [cmpP]; omega)) | ((with_reducible apply RS.cmpC); exact rfl; exact rfl; exact rfl; exact rfl; exact rfl) | ((with_reducible apply RS.fieldAddr); exact rfl; exact rfl; exact rfl) | ((with_reducible apply RS.load1); exact rfl; exact rfl; exact rfl; exact rfl; exact rfl; exact rfl) | ((with_reducible apply RS.store); exact rfl; exact rfl; exact rfl; exact rfl; exact rfl; exact Nat.le_of_ble_eq_true rfl; exact rfl; exact rfl; exact rfl) | ((with_reducible apply RS.alloc); exact rfl; exact rfl) | ((with_reducible apply RS.nil); exact mixed; kernel_rfl) | ((with_reducible apply W.seq)) | ((with_reducible apply W.reg); kernel_rfl) | ((with_reducible apply W.block)) | ((with_reducible apply W.skip)) | ((with_reducible apply W.condT); kernel_rfl; exact rfl) | ((with_reducible apply thenK_n)))
      repeat' ((first | (((with_reducible apply RS.splitD); exact rfl; exact rfl) <;> intro _) | ((((with_reducible apply RS.splitG); exact rfl; exact rfl) <;> intro _) <;> (fail_if_success (exact absurd ‹true = false› (by decide))) <;> (fail_if_success (exact absurd ‹false = true› (by decide)))) | (((with_reducible apply W.condD); exact rfl) <;> intro _) | ((((with_reducible apply W.cond); exact rfl) <;> intro _) <;> (fail_if_success (exact absurd ‹true = false› (by decide))) <;> (fail_if_success (exact absurd ‹false = true› (by decide))))) <;> repeat (first | ((with_reducible apply RS.move); exact rfl; exact rfl; exact rfl) | ((with_reducible apply RS.assign); exact rfl; exact rfl; exact rfl) | ((with_reducible apply RS.pickT); exact rfl; exact rfl; exact rfl; exact rfl) | ((with_reducible apply RS.pickF); exact rfl; exact rfl; exact rfl; exact rfl) | ((with_reducible apply RS.cmpC); exact rfl; exact rfl; exact rfl; exact rfl; exact rfl) | ((with_reducible apply RS.lenSl); exact rfl; exact rfl; exact rfl) | ((with_reducible apply RS.fieldAddr); exact rfl; exact rfl; exact rfl) | ((with_reducible apply RS.load1); exact rfl; exact rfl; exact rfl; exact rfl; exact rfl; exact rfl) | ((with_reducible apply RS.skip); exact rfl; exact rfl) | ((with_reducible apply RS.nil); exact mixed; kernel_rfl) | ((with_reducible apply W.seq)) | ((with_reducible apply W.reg); kernel_rfl) | ((with_reducible apply W.block)) | ((with_reducible apply W.ret)) | ((with_reducible apply W.skip)) | ((with_reducible apply W.condT); kernel_rfl; exact rfl) | ((with_reducible apply thenK_n)) | ((with_reducible apply thenK_r)) | ((with_reducible apply blockK_r)) | ((with_reducible apply roundK_r))))
      rotate_left 3
      · rename_i v1 v2 v3
        have hgh : lightG g = g.parts.all (fun x => decide (x.data.length ≤ 4096)) := by
          unfold lightG
          rw [decide_eq_true (by omega : g.place ≤ 4096), decide_eq_true (by omega : g.size ≤ 4096), decide_eq_true (by omega : g.parts.length ≤ 50)]
          simp
        refine W.loop (X := Nat) (fun π j => [(1, .pointer (some ⟨π 0, 0, none⟩)), (3, .int .i64 0), (37, .slice (some ⟨gb, go, none⟩) p.globals.length d2), (38, .int .i64 p.globals.length), (39, .int .i64 i), (5, .pointer (some ⟨π 1, 0, none⟩)), (58, .slice A' g.parts.length c'), (59, .int .i64 g.parts.length), (60, .int .i64 j)]) (fun _ => h) (fun π i => [(1, some ⟨⟨globC g A' c'⟩, 81⟩), (0, some ⟨⟨progC p P1 d1 (some ⟨gb, go, none⟩) d2⟩, 25⟩)]) (fun j => j ≤ g.parts.length ∧ g.parts.all (fun x => decide (x.data.length ≤ 4096)) = (g.parts.drop j).all (fun x => decide (x.data.length ≤ 4096))) (fun j => g.parts.length - j) [0, 1] 0 ⟨Nat.zero_le _, rfl⟩ (by (refine FitL.mk ?_ ?_ ?_ ?_ <;> (repeat' (first | exact trivial | exact rfl | apply And.intro)); done)) ?_
        intro π j hJ
        obtain ⟨hj, hJ⟩ := hJ
        dsimp only at hj hJ ⊢
        by_cases hlj : j < g.parts.length
        · obtain ⟨x, hx⟩ : ∃ x, g.parts[j]? = some x := ⟨_, List.getElem?_eq_getElem hlj⟩
          obtain ⟨xb, xo, xcs, xe, rfl, hQ, hQl, hQv⟩ := hGs.get j x hx
          have hQn := hd _ _ hQ
          obtain ⟨A'', c'', hQv, hQs⟩ := hQv
          have hxn := (hgm.parts x (List.mem_of_getElem? hx)).ndata
          rw [all_drop hx] at hJ
          repeat (first | ((with_reducible apply RS.indexAddrS); exact rfl; exact rfl; exact rfl; exact rfl; exact rfl; omega) | ((with_reducible apply RS.loadNB); exact rfl; exact rfl; exact rfl; exact hQ; exact hQn; exact hQl; exact hQv) | ((with_reducible apply RS.cmpT); exact rfl; exact rfl; exact rfl; exact rfl; (simp only [cmpP]; omega)) | ((with_reducible apply RS.cmpC); exact rfl; exact rfl; exact rfl; exact rfl; exact rfl) | ((with_reducible apply RS.lenSl); exact rfl; exact rfl; exact rfl) | ((with_reducible apply RS.fieldAddr); exact rfl; exact rfl; exact rfl) | ((with_reducible apply RS.load1); exact rfl; exact rfl; exact rfl; exact rfl; exact rfl; exact rfl) | ((with_reducible apply RS.store); exact rfl; exact rfl; exact rfl; exact rfl; exact rfl; exact Nat.le_of_ble_eq_true rfl; exact rfl; exact rfl; exact rfl) | ((with_reducible apply RS.alloc); exact rfl; exact rfl) | ((with_reducible apply RS.nil); exact mixed; kernel_rfl) | ((with_reducible apply W.seq)) | ((with_reducible apply W.reg); kernel_rfl) | ((with_reducible apply W.block)) | ((with_reducible apply W.skip)) | ((with_reducible apply W.condT); kernel_rfl; exact rfl) | ((with_reducible apply thenK_n)))
          repeat' ((first | (((with_reducible apply RS.splitD); exact rfl; exact rfl) <;> intro _) | ((((with_reducible apply RS.splitG); exact rfl; exact rfl) <;> intro _) <;> (fail_if_success (exact absurd ‹true = false› (by decide))) <;> (fail_if_success (exact absurd ‹false = true› (by decide)))) | (((with_reducible apply W.condD); exact rfl) <;> intro _) | ((((with_reducible apply W.cond); exact rfl) <;> intro _) <;> (fail_if_success (exact absurd ‹true = false› (by decide))) <;> (fail_if_success (exact absurd ‹false = true› (by decide))))) <;> repeat (first | ((with_reducible apply RS.move); exact rfl; exact rfl; exact rfl) | ((with_reducible apply RS.assign); exact rfl; exact rfl; exact rfl) | ((with_reducible apply RS.add1); exact rfl; exact rfl; exact rfl; exact rfl; omega) | ((with_reducible apply RS.nil); exact mixed; kernel_rfl) | ((with_reducible apply W.seq)) | ((with_reducible apply W.reg); kernel_rfl) | ((with_reducible apply W.ret)) | ((with_reducible apply W.skip)) | ((with_reducible apply thenK_n)) | ((with_reducible apply thenK_r)) | ((with_reducible apply blockK_n)) | ((with_reducible apply blockK_r)) | ((with_reducible apply roundK_r))))
          · refine endsK_ret _ (.cons (.tmp rfl) .nil) ⟨rfl, ?_⟩
            have hz : decide (x.data.length ≤ 4096) = false := by simp; omega
            rw [hz, Bool.false_and] at hJ
            rw [hgf (hgh.trans hJ)]; rfl
          · have hz : decide (x.data.length ≤ 4096) = true := by simp; omega
            rw [hz, Bool.true_and] at hJ
            exact roundK_n (j + 1) [0, 1] rfl rfl ⟨by omega, hJ⟩ (by omega) (by (refine FitL.mk ?_ ?_ ?_ ?_ <;> (repeat' (first | exact trivial | exact rfl | apply And.intro)); done))
        · repeat (first | ((with_reducible apply RS.move); exact rfl; exact rfl; exact rfl) | ((with_reducible apply RS.cmpF); exact rfl; exact rfl; exact rfl; exact rfl; (simp only [cmpN]; omega)) | ((with_reducible apply RS.add1); exact rfl; exact rfl; exact rfl; exact rfl; omega) | ((with_reducible apply RS.nil); exact mixed; kernel_rfl) | ((with_reducible apply W.seq)) | ((with_reducible apply W.reg); kernel_rfl) | ((with_reducible apply W.exit)) | ((with_reducible apply W.condF); kernel_rfl; exact rfl) | ((with_reducible apply thenK_n)) | ((with_reducible apply thenK_e)) | ((with_reducible apply blockK_n)) | ((with_reducible apply blockK_hit); exact rfl) | ((with_reducible apply roundK_e)))
          rw [List.drop_eq_nil_of_le (by omega)] at hJ
          have hz : lightG g = true := by rw [hgh, hJ]; rfl
          rw [hz, Bool.true_and] at hI
          exact roundK_n (i + 1) [0] rfl rfl ⟨by omega, hI⟩ (by omega) (by (refine FitL.mk ?_ ?_ ?_ ?_ <;> (repeat' (first | exact trivial | exact rfl | apply And.intro)); done))
      · refine endsK_ret _ (.cons (.tmp rfl) .nil) ⟨rfl, ?_⟩
        rw [hgf (by unfold lightG; simp; omega)]; rfl
      · refine endsK_ret _ (.cons (.tmp rfl) .nil) ⟨rfl, ?_⟩
        rw [hgf (by unfold lightG; simp; omega)]; rfl
      · refine endsK_ret _ (.cons (.tmp rfl) .nil) ⟨rfl, ?_⟩
        rw [hgf (by unfold lightG; simp; omega)]; rfl
    · repeat (first | ((with_reducible apply RS.move); exact rfl; exact rfl; exact rfl) | ((with_reducible apply RS.cmpF); exact rfl; exact rfl; exact rfl; exact rfl; (simp only [cmpN]; omega)) | ((with_reducible apply RS.lenSl); exact rfl; exact rfl; exact rfl) | ((with_reducible apply RS.fieldAddr); exact rfl; exact rfl; exact rfl) | ((with_reducible apply RS.load1); exact rfl; exact rfl; exact rfl; exact rfl; exact rfl; exact rfl) | ((with_reducible apply RS.nil); exact mixed; kernel_rfl) | ((with_reducible apply W.seq)) | ((with_reducible apply W.reg); kernel_rfl) | ((with_reducible apply W.block)) | ((with_reducible apply W.exit)) | ((with_reducible apply W.condF); kernel_rfl; exact rfl) | ((with_reducible apply thenK_n)) | ((with_reducible apply thenK_e)) | ((with_reducible apply blockK_hit); exact rfl) | ((with_reducible apply roundK_e)))
      rw [List.drop_eq_nil_of_le (by omega)] at hI
      have hres := hhead hI
      refine W.loop (X := Nat × Nat) (fun π y => [(1, .pointer (some ⟨π 0, 0, none⟩)), (3, .int .i64 y.2), (71, .slice P1 p.funcs.length d1), (72, .int .i64 p.funcs.length), (73, .int .i64 y.1)]) (fun _ => h) (fun π i => [(0, some ⟨⟨progC p P1 d1 P2 d2⟩, 25⟩)]) (fun y => y.1 ≤ p.funcs.length ∧ y.2 ≤ 4000 ∧ lightP p = (lightF (p.funcs.drop y.1) y.2).isSome) (fun y => p.funcs.length - y.1) [0] (0, 0) ⟨Nat.zero_le _, Nat.zero_le _, hres⟩ (by (refine FitL.mk ?_ ?_ ?_ ?_ <;> (repeat' (first | exact trivial | exact rfl | apply And.intro)); done)) ?_
      intro π y hI
      obtain ⟨i, n⟩ := y
      obtain ⟨hi, hn, hI⟩ := hI
      dsimp only at hi hn hI ⊢
      by_cases hlt : i < p.funcs.length
      · obtain ⟨f, hf⟩ : ∃ g, p.funcs[i]? = some g := ⟨_, List.getElem?_eq_getElem hlt⟩
        obtain ⟨fb, fo, fcs, fe, rfl, hF, hFl, hFv⟩ := hfs.get i f hf
        have hFn := hd _ _ hF
        obtain ⟨F1, c1, F2, c2, F3, c3, hFv, hFsl, hFbl⟩ := hFv
        have hfm := hok.funcs f (List.mem_of_getElem? hf)
        have hnb := hfm.nblocks
        have hns := hfm.nslots
        rw [drop_get hf] at hI
        repeat (first | ((with_reducible apply RS.indexAddrS); exact rfl; exact rfl; exact rfl; exact rfl; exact rfl; omega) | ((with_reducible apply RS.loadNB); exact rfl; exact rfl; exact rfl; exact hF; exact hFn; exact hFl; exact hFv) | ((with_reducible apply RS.move); exact rfl; exact rfl; exact rfl) | ((with_reducible apply RS.assign); exact rfl; exact rfl; exact rfl) | ((with_reducible apply RS.cmpT); exact rfl; exact rfl; exact rfl; exact rfl; (simp only [cmpP]; omega)) | ((with_reducible apply RS.cmpC); exact rfl; exact rfl; exact rfl; exact rfl; exact rfl) | ((with_reducible apply RS.binFit); exact rfl; exact rfl; exact rfl; exact rfl; exact rfl; omega) | ((with_reducible apply RS.lenSl); exact rfl; exact rfl; exact rfl) | ((with_reducible apply RS.fieldAddr); exact rfl; exact rfl; exact rfl) | ((with_reducible apply RS.load1); exact rfl; exact rfl; exact rfl; exact rfl; exact rfl; exact rfl) | ((with_reducible apply RS.store); exact rfl; exact rfl; exact rfl; exact rfl; exact rfl; exact Nat.le_of_ble_eq_true rfl; exact rfl; exact rfl; exact rfl) | ((with_reducible apply RS.alloc); exact rfl; exact rfl) | ((with_reducible apply RS.nil); exact mixed; kernel_rfl) | ((with_reducible apply W.seq)) | ((with_reducible apply W.reg); kernel_rfl) | ((with_reducible apply W.block)) | ((with_reducible apply W.skip)) | ((with_reducible apply W.condT); kernel_rfl; exact rfl) | ((with_reducible apply thenK_n)))
        repeat' ((first | (((with_reducible apply RS.splitD); exact rfl; exact rfl) <;> intro _) | ((((with_reducible apply RS.splitG); exact rfl; exact rfl) <;> intro _) <;> (fail_if_success (exact absurd ‹true = false› (by decide))) <;> (fail_if_success (exact absurd ‹false = true› (by decide)))) | (((with_reducible apply W.condD); exact rfl) <;> intro _) | ((((with_reducible apply W.cond); exact rfl) <;> intro _) <;> (fail_if_success (exact absurd ‹true = false› (by decide))) <;> (fail_if_success (exact absurd ‹false = true› (by decide))))) <;> repeat (first | ((with_reducible apply RS.move); exact rfl; exact rfl; exact rfl) | ((with_reducible apply RS.assign); exact rfl; exact rfl; exact rfl) | ((with_reducible apply RS.pickT); exact rfl; exact rfl; exact rfl; exact rfl) | ((with_reducible apply RS.pickF); exact rfl; exact rfl; exact rfl; exact rfl) | ((with_reducible apply RS.cmpC); exact rfl; exact rfl; exact rfl; exact rfl; exact rfl) | ((with_reducible apply RS.lenSl); exact rfl; exact rfl; exact rfl) | ((with_reducible apply RS.fieldAddr); exact rfl; exact rfl; exact rfl) | ((with_reducible apply RS.load1); exact rfl; exact rfl; exact rfl; exact rfl; exact rfl; exact rfl) | ((with_reducible apply RS.skip); exact rfl; exact rfl) | ((with_reducible apply RS.nil); exact mixed; kernel_rfl) | ((with_reducible apply W.seq)) | ((with_reducible apply W.reg); kernel_rfl) | ((with_reducible apply W.block)) | ((with_reducible apply W.ret)) | ((with_reducible apply W.skip)) | ((with_reducible apply W.condT); kernel_rfl; exact rfl) | ((with_reducible apply thenK_n)) | ((with_reducible apply thenK_r)) | ((with_reducible apply blockK_r)) | ((with_reducible apply roundK_r))))
        rotate_left 3
        · rename_i w1 w2 w3
          have hm : n + (1 + f.blocks.length + f.slots.length) ≤ 2000 := by omega
          have hcv : (n : Int) + (1 + (f.blocks.length : Int) + (f.slots.length : Int)) = ((n + (1 + f.blocks.length + f.slots.length) : Nat) : Int) := by omega
          have hfy : lightS f = true → lightP p = ((lightB f.blocks (n + (1 + f.blocks.length + f.slots.length))).bind (lightF (p.funcs.drop (i + 1)))).isSome := fun hz => by rw [hI]; show (if _ then _ else _ : Option Nat).isSome = _; rw [if_pos ⟨hm, by omega, by omega, hz⟩]
          have hfn : lightS f = false → lightP p = false := fun hz => by rw [hI]; show (if _ then _ else _ : Option Nat).isSome = _; rw [if_neg (fun hh => by rw [hh.2.2.2] at hz; cases hz)]; rfl
          rw [hcv]
          clear hI hcv
          generalize hM : n + (1 + f.blocks.length + f.slots.length) = m at *
          refine W.loop (X := Nat) (fun π j => [(1, .pointer (some ⟨π 0, 0, none⟩)), (3, .int .i64 m), (71, .slice (some ⟨fb, fo, none⟩) p.funcs.length d1), (72, .int .i64 p.funcs.length), (73, .int .i64 i), (9, .pointer (some ⟨π 1, 0, none⟩)), (100, .slice F2 f.slots.length c2), (101, .int .i64 f.slots.length), (102, .int .i64 j)]) (fun _ => h) (fun π i => [(1, some ⟨⟨funcC f F1 c1 F2 c2 F3 c3⟩, 35⟩), (0, some ⟨⟨progC p (some ⟨fb, fo, none⟩) d1 P2 d2⟩, 25⟩)]) (fun j => j ≤ f.slots.length ∧ lightS f = (f.slots.drop j).all (fun s => decide (0 ≤ s) && decide (s ≤ 1000) && decide (f.slots.length ≤ 4))) (fun j => f.slots.length - j) [0, 1] 0 ⟨Nat.zero_le _, rfl⟩ (by (refine FitL.mk ?_ ?_ ?_ ?_ <;> (repeat' (first | exact trivial | exact rfl | apply And.intro)); done)) ?_
          intro π j hJ
          obtain ⟨hj, hJ⟩ := hJ
          dsimp only at hj hJ ⊢
          by_cases hlj : j < f.slots.length
          · obtain ⟨s, hs⟩ : ∃ x, f.slots[j]? = some x := ⟨_, List.getElem?_eq_getElem hlj⟩
            obtain ⟨zb, zo, zcs, ze, rfl, hZ, hZl, hZv⟩ := hFsl.get j s hs
            have hZn := hd _ _ hZ
            have hZc := take_nth (j := 0) hZv rfl
            rw [all_drop hs] at hJ
            repeat (first | ((with_reducible apply RS.indexAddrS); exact rfl; exact rfl; exact rfl; exact rfl; exact rfl; omega) | ((with_reducible apply RS.load1B); exact rfl; exact rfl; exact rfl; exact hZ; exact hZn; exact hZc) | ((with_reducible apply RS.move); exact rfl; exact rfl; exact rfl) | ((with_reducible apply RS.assign); exact rfl; exact rfl; exact rfl) | ((with_reducible apply RS.cmpT); exact rfl; exact rfl; exact rfl; exact rfl; (simp only [cmpP]; omega)) | ((with_reducible apply RS.cmpC); exact rfl; exact rfl; exact rfl; exact rfl; exact rfl) | ((with_reducible apply RS.nil); exact mixed; kernel_rfl) | ((with_reducible apply W.seq)) | ((with_reducible apply W.reg); kernel_rfl) | ((with_reducible apply W.block)) | ((with_reducible apply W.skip)) | ((with_reducible apply W.condT); kernel_rfl; exact rfl) | ((with_reducible apply thenK_n)))
            repeat' ((first | (((with_reducible apply RS.splitD); exact rfl; exact rfl) <;> intro _) | ((((with_reducible apply RS.splitG); exact rfl; exact rfl) <;> intro _) <;> (fail_if_success (exact absurd ‹true = false› (by decide))) <;> (fail_if_success (exact absurd ‹false = true› (by decide)))) | (((with_reducible apply W.condD); exact rfl) <;> intro _) | ((((with_reducible apply W.cond); exact rfl) <;> intro _) <;> (fail_if_success (exact absurd ‹true = false› (by decide))) <;> (fail_if_success (exact absurd ‹false = true› (by decide))))) <;> repeat (first | ((with_reducible apply RS.move); exact rfl; exact rfl; exact rfl) | ((with_reducible apply RS.assign); exact rfl; exact rfl; exact rfl) | ((with_reducible apply RS.pickT); exact rfl; exact rfl; exact rfl; exact rfl) | ((with_reducible apply RS.pickF); exact rfl; exact rfl; exact rfl; exact rfl) | ((with_reducible apply RS.cmpC); exact rfl; exact rfl; exact rfl; exact rfl; exact rfl) | ((with_reducible apply RS.add1); exact rfl; exact rfl; exact rfl; exact rfl; omega) | ((with_reducible apply RS.lenSl); exact rfl; exact rfl; exact rfl) | ((with_reducible apply RS.fieldAddr); exact rfl; exact rfl; exact rfl) | ((with_reducible apply RS.load1); exact rfl; exact rfl; exact rfl; exact rfl; exact rfl; exact rfl) | ((with_reducible apply RS.skip); exact rfl; exact rfl) | ((with_reducible apply RS.nil); exact mixed; kernel_rfl) | ((with_reducible apply W.seq)) | ((with_reducible apply W.reg); kernel_rfl) | ((with_reducible apply W.ret)) | ((with_reducible apply W.skip)) | ((with_reducible apply W.condT); kernel_rfl; exact rfl) | ((with_reducible apply thenK_n)) | ((with_reducible apply thenK_r)) | ((with_reducible apply blockK_n)) | ((with_reducible apply blockK_r)) | ((with_reducible apply roundK_r))))
            rotate_left 3
            · rw [show (decide (0 ≤ s) && decide (s ≤ 1000) && decide (f.slots.length ≤ 4)) = true by simp; omega, Bool.true_and] at hJ
              exact roundK_n (j + 1) [0, 1] rfl rfl ⟨by omega, hJ⟩ (by omega) (by (refine FitL.mk ?_ ?_ ?_ ?_ <;> (repeat' (first | exact trivial | exact rfl | apply And.intro)); done))
            all_goals refine endsK_ret _ (.cons (.tmp rfl) .nil) ⟨rfl, ?_⟩
            all_goals rw [show (decide (0 ≤ s) && decide (s ≤ 1000) && decide (f.slots.length ≤ 4)) = false by simp; omega, Bool.false_and] at hJ
            all_goals rw [hfn hJ]; rfl
          · repeat (first | ((with_reducible apply RS.move); exact rfl; exact rfl; exact rfl) | ((with_reducible apply RS.cmpF); exact rfl; exact rfl; exact rfl; exact rfl; (simp only [cmpN]; omega)) | ((with_reducible apply RS.lenSl); exact rfl; exact rfl; exact rfl) | ((with_reducible apply RS.fieldAddr); exact rfl; exact rfl; exact rfl) | ((with_reducible apply RS.load1); exact rfl; exact rfl; exact rfl; exact rfl; exact rfl; exact rfl) | ((with_reducible apply RS.nil); exact mixed; kernel_rfl) | ((with_reducible apply W.seq)) | ((with_reducible apply W.reg); kernel_rfl) | ((with_reducible apply W.block)) | ((with_reducible apply W.exit)) | ((with_reducible apply W.condF); kernel_rfl; exact rfl) | ((with_reducible apply thenK_n)) | ((with_reducible apply thenK_e)) | ((with_reducible apply blockK_hit); exact rfl) | ((with_reducible apply roundK_e)))
            rw [List.drop_eq_nil_of_le (by omega)] at hJ
            refine W.loop (X := Nat × Nat) (fun π y => [(1, .pointer (some ⟨π 0, 0, none⟩)), (3, .int .i64 y.2), (71, .slice (some ⟨fb, fo, none⟩) p.funcs.length d1), (72, .int .i64 p.funcs.length), (73, .int .i64 i), (9, .pointer (some ⟨π 1, 0, none⟩)), (120, .slice F3 f.blocks.length c3), (121, .int .i64 f.blocks.length), (122, .int .i64 y.1)]) (fun _ => h) (fun π i => [(1, some ⟨⟨funcC f F1 c1 F2 c2 F3 c3⟩, 35⟩), (0, some ⟨⟨progC p (some ⟨fb, fo, none⟩) d1 P2 d2⟩, 25⟩)]) (fun y => y.1 ≤ f.blocks.length ∧ y.2 ≤ 4000 ∧ lightP p = ((lightB (f.blocks.drop y.1) y.2).bind (lightF (p.funcs.drop (i + 1)))).isSome) (fun y => f.blocks.length - y.1) [0, 1] (0, m) ⟨Nat.zero_le _, by omega, hfy hJ⟩ (by (refine FitL.mk ?_ ?_ ?_ ?_ <;> (repeat' (first | exact trivial | exact rfl | apply And.intro)); done)) ?_
            clear hj hJ hlj hfy hfn
            intro π y hJ
            obtain ⟨j, m⟩ := y
            obtain ⟨hj, hm4, hJ⟩ := hJ
            dsimp only at hj hm4 hJ ⊢
            by_cases hlj : j < f.blocks.length
            · obtain ⟨b, hb⟩ : ∃ b, f.blocks[j]? = some b := ⟨_, List.getElem?_eq_getElem hlj⟩
              obtain ⟨bb, bo, bcs, be, rfl, hB, hBl, hBv⟩ := hFbl.get j b hb
              have hBn := hd _ _ hB
              obtain ⟨A', c', hBv, hBi⟩ := hBv
              have hbm := hfm.blocks b (List.mem_of_getElem? hb)
              have hni := hbm.n
              rw [drop_get hb] at hJ
              repeat (first | ((with_reducible apply RS.indexAddrS); exact rfl; exact rfl; exact rfl; exact rfl; exact rfl; omega) | ((with_reducible apply RS.loadNB); exact rfl; exact rfl; exact rfl; exact hB; exact hBn; exact hBl; exact hBv) | ((with_reducible apply RS.move); exact rfl; exact rfl; exact rfl) | ((with_reducible apply RS.assign); exact rfl; exact rfl; exact rfl) | ((with_reducible apply RS.cmpT); exact rfl; exact rfl; exact rfl; exact rfl; (simp only [cmpP]; omega)) | ((with_reducible apply RS.cmpC); exact rfl; exact rfl; exact rfl; exact rfl; exact rfl) | ((with_reducible apply RS.addNat); exact rfl; exact rfl; exact rfl; exact rfl; omega) | ((with_reducible apply RS.lenSl); exact rfl; exact rfl; exact rfl) | ((with_reducible apply RS.fieldAddr); exact rfl; exact rfl; exact rfl) | ((with_reducible apply RS.load1); exact rfl; exact rfl; exact rfl; exact rfl; exact rfl; exact rfl) | ((with_reducible apply RS.store); exact rfl; exact rfl; exact rfl; exact rfl; exact rfl; exact Nat.le_of_ble_eq_true rfl; exact rfl; exact rfl; exact rfl) | ((with_reducible apply RS.alloc); exact rfl; exact rfl) | ((with_reducible apply RS.nil); exact mixed; kernel_rfl) | ((with_reducible apply W.seq)) | ((with_reducible apply W.reg); kernel_rfl) | ((with_reducible apply W.block)) | ((with_reducible apply W.skip)) | ((with_reducible apply W.condT); kernel_rfl; exact rfl) | ((with_reducible apply thenK_n)))
              repeat' ((first | (((with_reducible apply RS.splitD); exact rfl; exact rfl) <;> intro _) | ((((with_reducible apply RS.splitG); exact rfl; exact rfl) <;> intro _) <;> (fail_if_success (exact absurd ‹true = false› (by decide))) <;> (fail_if_success (exact absurd ‹false = true› (by decide)))) | (((with_reducible apply W.condD); exact rfl) <;> intro _) | ((((with_reducible apply W.cond); exact rfl) <;> intro _) <;> (fail_if_success (exact absurd ‹true = false› (by decide))) <;> (fail_if_success (exact absurd ‹false = true› (by decide))))) <;> repeat (first | ((with_reducible apply RS.move); exact rfl; exact rfl; exact rfl) | ((with_reducible apply RS.assign); exact rfl; exact rfl; exact rfl) | ((with_reducible apply RS.lenSl); exact rfl; exact rfl; exact rfl) | ((with_reducible apply RS.fieldAddr); exact rfl; exact rfl; exact rfl) | ((with_reducible apply RS.load1); exact rfl; exact rfl; exact rfl; exact rfl; exact rfl; exact rfl) | ((with_reducible apply RS.nil); exact mixed; kernel_rfl) | ((with_reducible apply W.seq)) | ((with_reducible apply W.reg); kernel_rfl) | ((with_reducible apply W.block)) | ((with_reducible apply W.ret)) | ((with_reducible apply W.skip)) | ((with_reducible apply thenK_n)) | ((with_reducible apply thenK_r)) | ((with_reducible apply blockK_r)) | ((with_reducible apply roundK_r))))
              · refine endsK_ret _ (.cons (.tmp rfl) .nil) ⟨rfl, ?_⟩
                rw [show lightP p = false by rw [hJ]; show (Option.bind (if _ then _ else _ : Option Nat) _).isSome = _; rw [if_neg (fun hh => by omega)]; rfl]; rfl
              · rename_i w4
                have hm2 : m + b.ins.length ≤ 2000 := by omega
                have hky : lightP p = (((lightI b.ins (m + b.ins.length)).bind (lightB (f.blocks.drop (j + 1)))).bind (lightF (p.funcs.drop (i + 1)))).isSome := by rw [hJ]; show (Option.bind (if _ then _ else _ : Option Nat) _).isSome = _; rw [if_pos hm2]
                refine W.loop (X := Nat × Nat) (fun π y => [(1, .pointer (some ⟨π 0, 0, none⟩)), (3, .int .i64 y.2), (71, .slice (some ⟨fb, fo, none⟩) p.funcs.length d1), (72, .int .i64 p.funcs.length), (73, .int .i64 i), (9, .pointer (some ⟨π 1, 0, none⟩)), (120, .slice (some ⟨bb, bo, none⟩) f.blocks.length c3), (121, .int .i64 f.blocks.length), (122, .int .i64 j), (13, .pointer (some ⟨π 2, 0, none⟩)), (134, .slice A' b.ins.length c'), (135, .int .i64 b.ins.length), (136, .int .i64 y.1)]) (fun _ => h) (fun π i => [(2, some ⟨⟨blockC b A' c'⟩, 47⟩), (1, some ⟨⟨funcC f F1 c1 F2 c2 (some ⟨bb, bo, none⟩) c3⟩, 35⟩), (0, some ⟨⟨progC p (some ⟨fb, fo, none⟩) d1 P2 d2⟩, 25⟩)]) (fun y => y.1 ≤ b.ins.length ∧ y.2 ≤ 4000 ∧ lightP p = (((lightI (b.ins.drop y.1) y.2).bind (lightB (f.blocks.drop (j + 1)))).bind (lightF (p.funcs.drop (i + 1)))).isSome) (fun y => b.ins.length - y.1) [0, 1, 2] (0, m + b.ins.length) ⟨Nat.zero_le _, by omega, hky⟩ (by (refine FitL.mk ?_ ?_ ?_ ?_ <;> (repeat' (first | exact trivial | exact rfl | apply And.intro)); done)) ?_
                clear hJ w4 hm2 hky hm4
                intro π y hK
                obtain ⟨k, m⟩ := y
                obtain ⟨hk, hm4, hK⟩ := hK
                dsimp only at hk hm4 hK ⊢
                by_cases hlk : k < b.ins.length
                · obtain ⟨x, hx⟩ : ∃ x, b.ins[k]? = some x := ⟨_, List.getElem?_eq_getElem hlk⟩
                  obtain ⟨xb, xo, xcs, xe, rfl, hX, hXl, hXv⟩ := hBi.get k x hx
                  have hXn := hd _ _ hX
                  obtain ⟨A'', c'', hXv, hXs⟩ := hXv
                  have hxn := (hbm.ins x (List.mem_of_getElem? hx)).n
                  rw [drop_get hx] at hK
                  repeat (first | ((with_reducible apply RS.indexAddrS); exact rfl; exact rfl; exact rfl; exact rfl; exact rfl; omega) | ((with_reducible apply RS.loadNB); exact rfl; exact rfl; exact rfl; exact hX; exact hXn; exact hXl; exact hXv) | ((with_reducible apply RS.move); exact rfl; exact rfl; exact rfl) | ((with_reducible apply RS.assign); exact rfl; exact rfl; exact rfl) | ((with_reducible apply RS.cmpT); exact rfl; exact rfl; exact rfl; exact rfl; (simp only [cmpP]; omega)) | ((with_reducible apply RS.cmpC); exact rfl; exact rfl; exact rfl; exact rfl; exact rfl) | ((with_reducible apply RS.addNat); exact rfl; exact rfl; exact rfl; exact rfl; omega) | ((with_reducible apply RS.lenSl); exact rfl; exact rfl; exact rfl) | ((with_reducible apply RS.fieldAddr); exact rfl; exact rfl; exact rfl) | ((with_reducible apply RS.load1); exact rfl; exact rfl; exact rfl; exact rfl; exact rfl; exact rfl) | ((with_reducible apply RS.store); exact rfl; exact rfl; exact rfl; exact rfl; exact rfl; exact Nat.le_of_ble_eq_true rfl; exact rfl; exact rfl; exact rfl) | ((with_reducible apply RS.alloc); exact rfl; exact rfl) | ((with_reducible apply RS.nil); exact mixed; kernel_rfl) | ((with_reducible apply W.seq)) | ((with_reducible apply W.reg); kernel_rfl) | ((with_reducible apply W.block)) | ((with_reducible apply W.skip)) | ((with_reducible apply W.condT); kernel_rfl; exact rfl) | ((with_reducible apply thenK_n)))
                  repeat' ((first | (((with_reducible apply RS.splitD); exact rfl; exact rfl) <;> intro _) | ((((with_reducible apply RS.splitG); exact rfl; exact rfl) <;> intro _) <;> (fail_if_success (exact absurd ‹true = false› (by decide))) <;> (fail_if_success (exact absurd ‹false = true› (by decide)))) | (((with_reducible apply W.condD); exact rfl) <;> intro _) | ((((with_reducible apply W.cond); exact rfl) <;> intro _) <;> (fail_if_success (exact absurd ‹true = false› (by decide))) <;> (fail_if_success (exact absurd ‹false = true› (by decide))))) <;> repeat (first | ((with_reducible apply RS.move); exact rfl; exact rfl; exact rfl) | ((with_reducible apply RS.assign); exact rfl; exact rfl; exact rfl) | ((with_reducible apply RS.pickT); exact rfl; exact rfl; exact rfl; exact rfl) | ((with_reducible apply RS.pickF); exact rfl; exact rfl; exact rfl; exact rfl) | ((with_reducible apply RS.cmpC); exact rfl; exact rfl; exact rfl; exact rfl; exact rfl) | ((with_reducible apply RS.add1); exact rfl; exact rfl; exact rfl; exact rfl; omega) | ((with_reducible apply RS.fieldAddr); exact rfl; exact rfl; exact rfl) | ((with_reducible apply RS.load1); exact rfl; exact rfl; exact rfl; exact rfl; exact rfl; exact rfl) | ((with_reducible apply RS.skip); exact rfl; exact rfl) | ((with_reducible apply RS.nil); exact mixed; kernel_rfl) | ((with_reducible apply W.seq)) | ((with_reducible apply W.reg); kernel_rfl) | ((with_reducible apply W.ret)) | ((with_reducible apply W.skip)) | ((with_reducible apply W.condT); kernel_rfl; exact rfl) | ((with_reducible apply thenK_n)) | ((with_reducible apply thenK_r)) | ((with_reducible apply blockK_n)) | ((with_reducible apply blockK_r)) | ((with_reducible apply roundK_r))))
                  rotate_left 3
                  · exact roundK_n (k + 1, m + x.args.length) [0, 1, 2] rfl rfl ⟨by omega, by dsimp only; omega, hK.trans (by show (Option.bind (Option.bind (if _ then _ else _ : Option Nat) _) _).isSome = _; rw [if_pos ⟨by omega, by omega, by omega⟩])⟩ (by omega) (by (refine FitL.mk ?_ ?_ ?_ ?_ <;> (repeat' (first | exact trivial | exact rfl | apply And.intro)); done))
                  all_goals refine endsK_ret _ (.cons (.tmp rfl) .nil) ⟨rfl, ?_⟩
                  all_goals rw [show lightP p = false by rw [hK]; show (Option.bind (Option.bind (if _ then _ else _ : Option Nat) _) _).isSome = _; rw [if_neg (fun hh => by omega)]; rfl]; rfl
                · repeat (first | ((with_reducible apply RS.move); exact rfl; exact rfl; exact rfl) | ((with_reducible apply RS.cmpF); exact rfl; exact rfl; exact rfl; exact rfl; (simp only [cmpN]; omega)) | ((with_reducible apply RS.add1); exact rfl; exact rfl; exact rfl; exact rfl; omega) | ((with_reducible apply RS.nil); exact mixed; kernel_rfl) | ((with_reducible apply W.seq)) | ((with_reducible apply W.reg); kernel_rfl) | ((with_reducible apply W.exit)) | ((with_reducible apply W.condF); kernel_rfl; exact rfl) | ((with_reducible apply thenK_n)) | ((with_reducible apply thenK_e)) | ((with_reducible apply blockK_n)) | ((with_reducible apply blockK_hit); exact rfl) | ((with_reducible apply roundK_e)))
                  rw [List.drop_eq_nil_of_le (by omega)] at hK
                  exact roundK_n (j + 1, m) [0, 1] rfl rfl ⟨by omega, hm4, hK⟩ (by omega) (by (refine FitL.mk ?_ ?_ ?_ ?_ <;> (repeat' (first | exact trivial | exact rfl | apply And.intro)); done))
            · repeat (first | ((with_reducible apply RS.move); exact rfl; exact rfl; exact rfl) | ((with_reducible apply RS.cmpF); exact rfl; exact rfl; exact rfl; exact rfl; (simp only [cmpN]; omega)) | ((with_reducible apply RS.add1); exact rfl; exact rfl; exact rfl; exact rfl; omega) | ((with_reducible apply RS.nil); exact mixed; kernel_rfl) | ((with_reducible apply W.seq)) | ((with_reducible apply W.reg); kernel_rfl) | ((with_reducible apply W.exit)) | ((with_reducible apply W.condF); kernel_rfl; exact rfl) | ((with_reducible apply thenK_n)) | ((with_reducible apply thenK_e)) | ((with_reducible apply blockK_n)) | ((with_reducible apply blockK_hit); exact rfl) | ((with_reducible apply roundK_e)))
              rw [List.drop_eq_nil_of_le (by omega)] at hJ
              exact roundK_n (i + 1, m) [0] rfl rfl ⟨by omega, hm4, hJ⟩ (by omega) (by (refine FitL.mk ?_ ?_ ?_ ?_ <;> (repeat' (first | exact trivial | exact rfl | apply And.intro)); done))
        · refine endsK_ret _ (.cons (.tmp rfl) .nil) ⟨rfl, ?_⟩
          rw [show lightP p = false by rw [hI]; show (if _ then _ else _ : Option Nat).isSome = _; rw [if_neg (fun hh => by omega)]; rfl]; rfl
        · refine endsK_ret _ (.cons (.tmp rfl) .nil) ⟨rfl, ?_⟩
          rw [show lightP p = false by rw [hI]; show (if _ then _ else _ : Option Nat).isSome = _; rw [if_neg (fun hh => by omega)]; rfl]; rfl
        · refine endsK_ret _ (.cons (.tmp rfl) .nil) ⟨rfl, ?_⟩
          rw [show lightP p = false by rw [hI]; show (if _ then _ else _ : Option Nat).isSome = _; rw [if_neg (fun hh => by omega)]; rfl]; rfl
      · repeat (first | ((with_reducible apply RS.assign); exact rfl; exact rfl; exact rfl) | ((with_reducible apply RS.cmpF); exact rfl; exact rfl; exact rfl; exact rfl; (simp only [cmpN]; omega)) | ((with_reducible apply RS.nil); exact mixed; kernel_rfl) | ((with_reducible apply W.seq)) | ((with_reducible apply W.reg); kernel_rfl) | ((with_reducible apply W.exit)) | ((with_reducible apply W.ret)) | ((with_reducible apply W.condF); kernel_rfl; exact rfl) | ((with_reducible apply thenK_n)) | ((with_reducible apply thenK_e)) | ((with_reducible apply blockK_hit); exact rfl) | ((with_reducible apply roundK_e)))
        rw [List.drop_eq_nil_of_le (by omega)] at hI
        exact endsK_ret _ (.cons (.tmp rfl) .nil) ⟨rfl, by rw [hI]; rfl⟩
  all_goals refine endsK_ret _ (.cons (.tmp rfl) .nil) ⟨rfl, ?_⟩
  · rw [show lightP p = false by unfold lightP; simp; omega]; rfl
  · rw [show lightP p = false by unfold lightP; simp; omega]; rfl
  · rw [show lightP p = false by unfold lightP; simp; omega]; rfl
  · rw [show lightP p = false by unfold lightP; simp; omega]; rfl
end Go.Proofs.Ytjhloakacicdiaa
namespace Go.Proofs.Ytjhloakacicdiaa
open Go.AH
attribute [local irreducible] W RS
structure LeakS where
  kind : Int
  a : Int
  b : Int
structure RunS where
  fin : Int
  exit : Int
  out : List Int
  leaks : List LeakS
  steps : Int
  fuel : Int
  data : List Int
  stack : List Int
  sp : Int
  deep : Int
def leakW (x : LeakS) : List Value := [.int .i64 x.kind, .int .i64 x.a, .int .i64 x.b]
def intW (n : Int) : List Value := [.int .i64 n]
def bytesC (l : List Int) : List Value := l.map (.int .u8 ·)
def intsC (l : List Int) : List Value := l.map (.int .i64 ·)
def runC (pb : Nat) (s : RunS) (o l d t : Nat) : List Value := [.pointer (some ⟨pb, 0, none⟩), .int .i64 s.fin, .int .i64 s.exit, rowVl 1 o s.out, rowVl 3 l s.leaks, .int .i64 s.steps, .int .i64 s.fuel, .slice (some ⟨d, 0, none⟩) s.data.length s.data.length, .slice (some ⟨t, 0, none⟩) s.stack.length s.stack.length, .int .i64 s.sp, .int .i64 s.deep]
def runL (pb : Nat) (s : RunS) (π : Nat → Nat) : List (Nat × Option Blk) := [(0, some ⟨⟨runC pb s (π 1) (π 2) (π 3) (π 4)⟩, 87⟩), (1, rowBk intW 2 s.out), (2, rowBk leakW 90 s.leaks), (3, some ⟨⟨bytesC s.data⟩, 5⟩), (4, some ⟨⟨bytesC s.stack⟩, 5⟩)]
set_option maxRecDepth 100000 in
theorem ok_tf (fin : Int) (cs : List Value) (xb : Nat) (h : Hp) (hM : h.m xb = some ⟨⟨cs⟩, 87⟩) (hMc : cs[1]? = some (.int .i64 fin)) : TF Try.prog 36 ⟨[.pointer (some ⟨xb, 0, none⟩)]⟩ h (.bool (fin == 0)) h := by
  refine TF.dom fun hd => ?_
  have hMn := hd _ _ hM
  refine TF.still (fn := Try.f36) (c := (Try.f36.body.getD .skip)) Try.func36 (by kernel_rfl) Try.ntmps36 (by kernel_rfl) (by simp) ?_
  conv => arg 2; whnf
  repeat (first | ((with_reducible apply RS.load1B); exact rfl; exact rfl; exact rfl; exact hM; exact hMn; exact hMc) | ((with_reducible apply RS.nilCheck); exact rfl; exact rfl; exact rfl) | ((with_reducible apply RS.move); exact rfl; exact rfl; exact rfl) | ((with_reducible apply RS.assign); exact rfl; exact rfl; exact rfl) | ((with_reducible apply RS.cmpC); exact rfl; exact rfl; exact rfl; exact rfl; exact rfl) | ((with_reducible apply RS.fieldAddr); exact rfl; exact rfl; exact rfl) | ((with_reducible apply RS.nil); exact mixed; kernel_rfl) | ((with_reducible apply W.seq)) | ((with_reducible apply W.reg); kernel_rfl) | ((with_reducible apply W.ret)) | ((with_reducible apply thenK_n)))
  repeat' ((first | (((with_reducible apply RS.splitD); exact rfl; exact rfl) <;> intro _) | ((((with_reducible apply RS.splitG); exact rfl; exact rfl) <;> intro _) <;> (fail_if_success (exact absurd ‹true = false› (by decide))) <;> (fail_if_success (exact absurd ‹false = true› (by decide)))) | (((with_reducible apply W.condD); exact rfl) <;> intro _) | ((((with_reducible apply W.cond); exact rfl) <;> intro _) <;> (fail_if_success (exact absurd ‹true = false› (by decide))) <;> (fail_if_success (exact absurd ‹false = true› (by decide))))) <;> repeat (fail))
  all_goals exact endsK_ret _ (.cons (.tmp rfl) .nil) ⟨rfl, rfl⟩
def argS (regs : List Int) (a : ArgS) : Int := if a.reg < 0 then a.num else regs.getD a.reg.toNat 0
set_option maxRecDepth 100000 in
theorem arg_tf (a : ArgS) (regs : List Int) (rb : Nat) (cs : List Value) (fb : Nat) (h : Hp) (hlen : regs.length ≤ 1000000000) (hM : h.m fb = some ⟨⟨cs⟩, 100⟩) (hMc : cs[1]? = some (.slice (some ⟨rb, 0, none⟩) regs.length regs.length)) (hR : h.m rb = some ⟨⟨intsC regs⟩, 2⟩) : TF Try.prog 62 ⟨[.pointer (some ⟨fb, 0, none⟩), .agg ⟨argC a⟩]⟩ h (.int .i64 (argS regs a)) h := by
  refine TF.dom fun hd => ?_
  have hMn := hd _ _ hM
  have hRn := hd _ _ hR
  by_cases hn : 0 ≤ a.reg ∧ a.reg < regs.length
  · obtain ⟨v, hv⟩ : ∃ v, regs[a.reg.toNat]? = some v := ⟨_, List.getElem?_eq_getElem (by omega)⟩
    have hav : argS regs a = v := by unfold argS; rw [if_neg (by omega), List.getD_eq_getElem?_getD, hv]; rfl
    have hRc : (intsC regs)[0 + a.reg.toNat * 1]? = some (.int .i64 v) := by
      unfold intsC; rw [Nat.zero_add, Nat.mul_one, List.getElem?_map, hv]; rfl
    refine TF.still (fn := Try.f62) (c := (Try.f62.body.getD .skip)) Try.func62 (by kernel_rfl) Try.ntmps62 (by kernel_rfl) (by simp) ?_
    conv => arg 2; whnf
    repeat (first | ((with_reducible apply RS.load1B); exact rfl; exact rfl; exact rfl; exact hM; exact hMn; exact hMc) | ((with_reducible apply RS.load1B); exact rfl; exact rfl; exact rfl; exact hR; exact hRn; exact hRc) | ((with_reducible apply RS.indexAddrS); exact rfl; exact rfl; exact rfl; exact rfl; exact (Int.toNat_of_nonneg (by omega)).symm; omega) | ((with_reducible apply RS.nilCheck); exact rfl; exact rfl; exact rfl) | ((with_reducible apply RS.move); exact rfl; exact rfl; exact rfl) | ((with_reducible apply RS.assign); exact rfl; exact rfl; exact rfl) | ((with_reducible apply RS.cmpF); exact rfl; exact rfl; exact rfl; exact rfl; (simp only [cmpN]; omega)) | ((with_reducible apply RS.lenSl); exact rfl; exact rfl; exact rfl) | ((with_reducible apply RS.fieldAddr); exact rfl; exact rfl; exact rfl) | ((with_reducible apply RS.load1); exact rfl; exact rfl; exact rfl; exact rfl; exact rfl; exact rfl) | ((with_reducible apply RS.box); exact rfl; exact rfl; exact rfl) | ((with_reducible apply RS.nil); exact mixed; kernel_rfl) | ((with_reducible apply W.seq)) | ((with_reducible apply W.reg); kernel_rfl) | ((with_reducible apply W.block)) | ((with_reducible apply W.ret)) | ((with_reducible apply W.skip)) | ((with_reducible apply W.condF); kernel_rfl; exact rfl) | ((with_reducible apply thenK_n)) | ((with_reducible apply blockK_n)))
    repeat' ((first | (((with_reducible apply RS.splitD); exact rfl; exact rfl) <;> intro _) | ((((with_reducible apply RS.splitG); exact rfl; exact rfl) <;> intro _) <;> (fail_if_success (exact absurd ‹true = false› (by decide))) <;> (fail_if_success (exact absurd ‹false = true› (by decide)))) | (((with_reducible apply W.condD); exact rfl) <;> intro _) | ((((with_reducible apply W.cond); exact rfl) <;> intro _) <;> (fail_if_success (exact absurd ‹true = false› (by decide))) <;> (fail_if_success (exact absurd ‹false = true› (by decide))))) <;> repeat (fail))
    all_goals exact endsK_ret _ (.cons (.tmp rfl) .nil) ⟨rfl, by rw [hav]; rfl⟩
  · have hneg : a.reg < 0 → argS regs a = a.num := fun hz => by unfold argS; rw [if_pos hz]
    have hbig : ¬ a.reg < 0 → argS regs a = 0 := fun hz => by
      unfold argS; rw [if_neg hz, List.getD_eq_getElem?_getD, List.getElem?_eq_none (by omega)]; rfl
    refine TF.still (fn := Try.f62) (c := (Try.f62.body.getD .skip)) Try.func62 (by kernel_rfl) Try.ntmps62 (by kernel_rfl) (by simp) ?_
    conv => arg 2; whnf
    repeat (first | ((with_reducible apply RS.assign); exact rfl; exact rfl; exact rfl) | ((with_reducible apply RS.cmpC); exact rfl; exact rfl; exact rfl; exact rfl; exact rfl) | ((with_reducible apply RS.fieldAddr); exact rfl; exact rfl; exact rfl) | ((with_reducible apply RS.load1); exact rfl; exact rfl; exact rfl; exact rfl; exact rfl; exact rfl) | ((with_reducible apply RS.box); exact rfl; exact rfl; exact rfl) | ((with_reducible apply RS.nil); exact mixed; kernel_rfl) | ((with_reducible apply W.seq)) | ((with_reducible apply W.reg); kernel_rfl) | ((with_reducible apply W.block)) | ((with_reducible apply thenK_n)))
    repeat' ((first | (((with_reducible apply RS.splitD); exact rfl; exact rfl) <;> intro _) | ((((with_reducible apply RS.splitG); exact rfl; exact rfl) <;> intro _) <;> (fail_if_success (exact absurd ‹true = false› (by decide))) <;> (fail_if_success (exact absurd ‹false = true› (by decide)))) | (((with_reducible apply W.condD); exact rfl) <;> intro _) | ((((with_reducible apply W.cond); exact rfl) <;> intro _) <;> (fail_if_success (exact absurd ‹true = false› (by decide))) <;> (fail_if_success (exact absurd ‹false = true› (by decide))))) <;> repeat (first | ((with_reducible apply RS.load1B); exact rfl; exact rfl; exact rfl; exact hM; exact hMn; exact hMc) | ((with_reducible apply RS.nilCheck); exact rfl; exact rfl; exact rfl) | ((with_reducible apply RS.move); exact rfl; exact rfl; exact rfl) | ((with_reducible apply RS.assign); exact rfl; exact rfl; exact rfl) | ((with_reducible apply RS.cmpT); exact rfl; exact rfl; exact rfl; exact rfl; (simp only [cmpP]; omega)) | ((with_reducible apply RS.lenSl); exact rfl; exact rfl; exact rfl) | ((with_reducible apply RS.fieldAddr); exact rfl; exact rfl; exact rfl) | ((with_reducible apply RS.load1); exact rfl; exact rfl; exact rfl; exact rfl; exact rfl; exact rfl) | ((with_reducible apply RS.nil); exact mixed; kernel_rfl) | ((with_reducible apply W.seq)) | ((with_reducible apply W.reg); kernel_rfl) | ((with_reducible apply W.ret)) | ((with_reducible apply W.condT); kernel_rfl; exact rfl) | ((with_reducible apply thenK_n)) | ((with_reducible apply thenK_r)) | ((with_reducible apply blockK_r))))
    · exact endsK_ret _ (.cons (.tmp rfl) .nil) ⟨rfl, by rw [hneg (by assumption)]; rfl⟩
    · exact endsK_ret _ (.cons (.tmp rfl) .nil) ⟨rfl, by rw [hbig (by assumption)]; rfl⟩
    all_goals (exfalso; omega)
theorem ParB_free {n K : Nat} {cs : List Value} {e : TypeId} (h : ∀ v ∈ cs, bnd 0 v) : ParB n K (fun _ => some ⟨⟨cs⟩, e⟩) := by
  refine ⟨fun τ π hτ => ?_, fun π N b hN hp hb u hu => ?_⟩
  · show some _ = _
    congr 1
    unfold subB
    congr 1
    apply Array.ext'
    simp only [List.map_toArray]
    exact (List.map_congr_left (g := id) fun v hv => sub_same (n := 0) (fun i hi => by omega) v (h v hv)).trans (List.map_id cs)
  · injection hb with hb
    subst hb
    exact bnd_mono (Nat.zero_le _) u (h u (by simpa using hu))
theorem ParB_row {n K : Nat} {α : Type} {w : α → List Value} {e : TypeId} (h : ∀ a, ∀ v ∈ w a, bnd 0 v) (l : List α) : ParB n K (fun _ => rowBk w e l) := by
  have hall : ∀ l : List α, ∀ v ∈ rowC w l, bnd 0 v := by
    intro l
    induction l with
    | nil => intro v hv; cases hv
    | cons a l ih =>
      intro v hv
      rw [rowC, List.mem_append] at hv
      rcases hv with hv | hv
      · exact ih v hv
      · exact h a v hv
  cases l with
  | nil => exact ⟨fun τ π hτ => rfl, fun π N b hN hp hb => by cases hb⟩
  | cons a l => exact ParB_free (hall (a :: l))
theorem sub_row {α : Type} {τ : Nat → Nat} {sz a : Nat} {l : List α} : sub τ (rowVl sz a l) = rowVl sz (τ a) l := by
  cases l <;> simp [rowVl]
theorem bnd_row {α : Type} {N sz a : Nat} {l : List α} (h : a < N) : bnd N (rowVl sz a l) := by
  cases l <;> simp [rowVl, h]
theorem run_par {n K : Nat} {pb : Nat} (s : RunS) (hp : pb < n) (hK : 5 ≤ K) : ParL n K (runL pb s) 5 := by
  refine ⟨ParB_free fun v hv => ?_, ParB_free fun v hv => ?_, ParB_row (fun a v hv => ?_) s.leaks, ParB_row (fun a v hv => ?_) s.out, ⟨fun τ π hτ => ?_, fun π N b hN hpi hb u hu => ?_⟩, trivial⟩
  · obtain ⟨x, _, rfl⟩ := List.mem_map.1 hv; simp
  · obtain ⟨x, _, rfl⟩ := List.mem_map.1 hv; simp
  · simp only [leakW, List.mem_cons, List.not_mem_nil, or_false] at hv
    rcases hv with rfl | rfl | rfl <;> simp
  · simp only [intW, List.mem_cons, List.not_mem_nil, or_false] at hv
    subst hv; simp
  · show some _ = some _
    congr 1
    unfold subB runC
    congr 1
    apply Array.ext'
    simp [sub_row, hτ pb hp]
  · have hb : some _ = some b := hb
    injection hb with hb
    subst hb
    have h1 := hpi 1 (by omega)
    have h2 := hpi 2 (by omega)
    have h3 := hpi 3 (by omega)
    have h4 := hpi 4 (by omega)
    have hu : u ∈ runC pb s (π 1) (π 2) (π 3) (π 4) := by simpa using hu
    simp only [runC, List.mem_cons, List.not_mem_nil, or_false] at hu
    rcases hu with rfl | rfl | rfl | rfl | rfl | rfl | rfl | rfl | rfl | rfl | rfl
    all_goals first | exact bnd_row (by assumption) | (simp; done) | (simp; omega)
def stopS (s : RunS) (e : Int) : RunS := if s.fin = 0 then { s with fin := e } else s
set_option maxRecDepth 100000 in
theorem stop_to (B : Hp) (pb : Nat) (hpb : pb < B.n) (s : RunS) (e : Int) : TO Try.prog 47 B 5 0 (fun π => [.pointer (some ⟨π 0, 0, none⟩), .int .i64 e]) (runL pb s) (fun _ => .tuple #[]) (runL pb (stopS s e)) := by
  refine TO.intro (fn := Try.f47) (c := (Try.f47.body.getD .skip)) Try.func47 (by kernel_rfl) Try.ntmps47 (fun π => by kernel_rfl) (run_par _ hpb (by omega)) ⟨fun τ π hτ => by simp, fun π N hN hp => by simp⟩ fun π => ?_
  conv => arg 2; whnf
  repeat (first | ((with_reducible apply RS.callR false [0]); exact rfl; exact rfl; exact rfl; exact fun H hH => ok_tf s.fin _ _ H (hH.l 0 rfl (by simp)) rfl; exact Nm_free (by simp)) | ((with_reducible apply RS.move); exact rfl; exact rfl; exact rfl) | ((with_reducible apply RS.nil); exact mixed; kernel_rfl) | ((with_reducible apply W.seq)) | ((with_reducible apply W.reg); kernel_rfl) | ((with_reducible apply thenK_n)))
  repeat' ((first | (((with_reducible apply RS.splitD); exact rfl; exact rfl) <;> intro _) | ((((with_reducible apply RS.splitG); exact rfl; exact rfl) <;> intro _) <;> (fail_if_success (exact absurd ‹true = false› (by decide))) <;> (fail_if_success (exact absurd ‹false = true› (by decide)))) | (((with_reducible apply W.condD); exact rfl) <;> intro _) | ((((with_reducible apply W.cond); exact rfl) <;> intro _) <;> (fail_if_success (exact absurd ‹true = false› (by decide))) <;> (fail_if_success (exact absurd ‹false = true› (by decide))))) <;> repeat (first | ((with_reducible apply RS.nilCheck); exact rfl; exact rfl; exact rfl) | ((with_reducible apply RS.move); exact rfl; exact rfl; exact rfl) | ((with_reducible apply RS.fieldAddr); exact rfl; exact rfl; exact rfl) | ((with_reducible apply RS.store); exact rfl; exact rfl; exact rfl; exact rfl; exact rfl; exact Nat.le_of_ble_eq_true rfl; exact rfl; exact rfl; exact rfl) | ((with_reducible apply RS.nil); exact mixed; kernel_rfl) | ((with_reducible apply W.reg); kernel_rfl) | ((with_reducible apply W.skip))))
  · rw [show stopS s e = { s with fin := e } from if_pos ‹_›]
    exact ⟨[], .nil, by (refine AtO.mk [0, 1, 2, 3, 4] rfl rfl rfl ?_ ?_ rfl <;> (repeat' (first | exact trivial | exact rfl | apply And.intro)); done)⟩
  · rw [show stopS s e = s from if_neg ‹_›]
    exact ⟨[], .nil, by (refine AtO.mk [0, 1, 2, 3, 4] rfl rfl rfl ?_ ?_ rfl <;> (repeat' (first | exact trivial | exact rfl | apply And.intro)); done)⟩
def stepS (s : RunS) : RunS := if s.fin = 0 then (if s.steps ≥ s.fuel then { s with fin := 42 } else { s with steps := s.steps + 1 }) else s
theorem stop_fresh (pb : Nat) (s : RunS) (e : Int) (π : Nat → Nat) : FreshL (runL pb s π) (runL pb (stopS s e) π) 5 := by
  have h1 : (stopS s e).out = s.out := by unfold stopS; split <;> rfl
  have h2 : (stopS s e).leaks = s.leaks := by unfold stopS; split <;> rfl
  refine ⟨.inr ⟨_, rfl⟩, .inr ⟨_, rfl⟩, ?_, ?_, .inr ⟨_, rfl⟩, trivial⟩
  · show rowBk leakW 90 (stopS s e).leaks = none ∨ ∃ b, rowBk leakW 90 s.leaks = some b
    rw [h2]; cases s.leaks with
    | nil => exact .inl rfl
    | cons a l => exact .inr ⟨_, rfl⟩
  · show rowBk intW 2 (stopS s e).out = none ∨ ∃ b, rowBk intW 2 s.out = some b
    rw [h1]; cases s.out with
    | nil => exact .inl rfl
    | cons a l => exact .inr ⟨_, rfl⟩
set_option maxRecDepth 100000 in
theorem step_to (B : Hp) (pb : Nat) (hpb : pb < B.n) (s : RunS) (hst : 0 ≤ s.steps ∧ s.steps ≤ 1000000000) : TO Try.prog 61 B 5 0 (fun π => [.pointer (some ⟨π 0, 0, none⟩)]) (runL pb s) (fun _ => .bool ((stepS s).fin == 0)) (runL pb (stepS s)) := by
  refine TO.intro (fn := Try.f61) (c := (Try.f61.body.getD .skip)) Try.func61 (by kernel_rfl) Try.ntmps61 (fun π => by kernel_rfl) (run_par _ hpb (by omega)) ⟨fun τ π hτ => by simp, fun π N hN hp => by simp⟩ fun π => ?_
  conv => arg 2; whnf
  repeat (first | ((with_reducible apply RS.callR false [0]); exact rfl; exact rfl; exact rfl; exact fun H hH => ok_tf _ _ _ H (hH.l 0 rfl (by simp)) rfl; exact Nm_free (by simp)) | ((with_reducible apply RS.move); exact rfl; exact rfl; exact rfl) | ((with_reducible apply RS.assign); exact rfl; exact rfl; exact rfl) | ((with_reducible apply RS.nil); exact mixed; kernel_rfl) | ((with_reducible apply W.seq)) | ((with_reducible apply W.reg); kernel_rfl) | ((with_reducible apply thenK_n)))
  repeat' ((first | (((with_reducible apply RS.splitD); exact rfl; exact rfl) <;> intro _) | ((((with_reducible apply RS.splitG); exact rfl; exact rfl) <;> intro _) <;> (fail_if_success (exact absurd ‹true = false› (by decide))) <;> (fail_if_success (exact absurd ‹false = true› (by decide)))) | (((with_reducible apply W.condD); exact rfl) <;> intro _) | ((((with_reducible apply W.cond); exact rfl) <;> intro _) <;> (fail_if_success (exact absurd ‹true = false› (by decide))) <;> (fail_if_success (exact absurd ‹false = true› (by decide))))) <;> repeat (first | ((with_reducible apply RS.callR false [0]); exact rfl; exact rfl; exact rfl; exact fun H hH => ok_tf _ _ _ H (hH.l 0 rfl (by simp)) rfl; exact Nm_free (by simp)) | ((with_reducible apply (RS.callO (vs := []) [0, 1, 2, 3, 4] 0)); exact rfl; exact rfl; exact stop_to _ pb hpb s 42; exact rfl; exact rfl; exact ⟨rfl, rfl, rfl, rfl, rfl, trivial⟩; exact stop_fresh _ _ _ _) | ((with_reducible apply RS.nilCheck); exact rfl; exact rfl; exact rfl) | ((with_reducible apply RS.move); exact rfl; exact rfl; exact rfl) | ((with_reducible apply RS.assign); exact rfl; exact rfl; exact rfl) | ((with_reducible apply RS.pickT); exact rfl; exact rfl; exact rfl; exact rfl) | ((with_reducible apply RS.pickF); exact rfl; exact rfl; exact rfl; exact rfl) | ((with_reducible apply RS.cmpT); exact rfl; exact rfl; exact rfl; exact rfl; (simp only [cmpP]; omega)) | ((with_reducible apply RS.binFit); exact rfl; exact rfl; exact rfl; exact rfl; exact rfl; omega) | ((with_reducible apply RS.bin); exact rfl; exact rfl; exact rfl; exact rfl; exact rfl) | ((with_reducible apply RS.fieldAddr); exact rfl; exact rfl; exact rfl) | ((with_reducible apply RS.load1); exact rfl; exact rfl; exact rfl; exact rfl; exact rfl; exact rfl) | ((with_reducible apply RS.store); exact rfl; exact rfl; exact rfl; exact rfl; exact rfl; exact Nat.le_of_ble_eq_true rfl; exact rfl; exact rfl; exact rfl) | ((with_reducible apply RS.skip); exact rfl; exact rfl) | ((with_reducible apply RS.nil); exact mixed; kernel_rfl) | ((with_reducible apply W.seq)) | ((with_reducible apply W.reg); kernel_rfl) | ((with_reducible apply W.ret)) | ((with_reducible apply W.skip)) | ((with_reducible apply W.condF); kernel_rfl; exact rfl) | ((with_reducible apply thenK_n))))
  · rename_i q1 q2 q3
    exfalso
    rw [show stopS s 42 = { s with fin := 42 } from if_pos q1] at q3
    exact absurd q3 (show ¬ (42 : Int) = 0 by decide)
  · rename_i q1 q2 q3
    rw [show stepS s = stopS s 42 by unfold stepS stopS; rw [if_pos q1, if_pos q2, if_pos q1]]
    exact endsK_ret _ (.cons (.tmp rfl) .nil) (by (refine AtO.mk [0, 1, 2, 3, 4] rfl rfl rfl ?_ ?_ rfl <;> (repeat' (first | exact trivial | exact rfl | apply And.intro)); done))
  · rename_i q1 q2 q3
    rw [show stepS s = { s with steps := s.steps + 1 } by unfold stepS; rw [if_pos q1, if_neg q2]]
    exact endsK_ret _ (.cons (.tmp rfl) .nil) (by (refine AtO.mk [0, 1, 2, 3, 4] rfl rfl rfl ?_ ?_ rfl <;> (repeat' (first | exact trivial | exact rfl | apply And.intro)); done))
  · exact absurd ‹s.fin = 0› ‹¬ s.fin = 0›
  · exact absurd ‹s.fin = 0› ‹¬ s.fin = 0›
  · rename_i q1 q2
    rw [show stepS s = s by unfold stepS; rw [if_neg q1]]
    exact endsK_ret _ (.cons (.tmp rfl) .nil) (by (refine AtO.mk [0, 1, 2, 3, 4] rfl rfl rfl ?_ ?_ rfl <;> (repeat' (first | exact trivial | exact rfl | apply And.intro)); done))
end Go.Proofs.Ytjhloakacicdiaa
namespace Go.Proofs.Ytjhloakacicdiaa
open Go.AH
attribute [local irreducible] W RS
structure RunS.ok (s : RunS) : Prop where
  data : s.data.length ≤ 1000000
  stack : s.stack.length ≤ 1000000
  steps : 0 ≤ s.steps ∧ s.steps ≤ 1000000000
  leaks : s.leaks.length ≤ 1000000000
  out : s.out.length ≤ 1000000000
def inData (s : RunS) (at_ : Int) (n : Nat) : Prop := 65536 ≤ at_ ∧ at_ ≤ 65536 + s.data.length - n
def inStack (s : RunS) (at_ : Int) (n : Nat) : Prop := 134217728 - (s.stack.length : Int) ≤ at_ ∧ at_ ≤ 134217728 - n
set_option maxRecDepth 100000 in
theorem bytesD_to (B : Hp) (pb : Nat) (hpb : pb < B.n) (s : RunS) (hs : s.ok) (at_ : Int) (n : Nat) (hn : 1 ≤ n ∧ n ≤ 8) (hin : inData s at_ n) : TO Try.prog 77 B 5 0 (fun π => [.pointer (some ⟨π 0, 0, none⟩), .int .i64 at_, .int .i64 n]) (runL pb s) (fun π => .slice (some ⟨π 3, 0 + (at_ - 65536).toNat * 1, none⟩) n (s.data.length - (at_ - 65536).toNat)) (runL pb s) := by
  obtain ⟨hi1, hi2⟩ := hin
  have hd := hs.data
  have hk := hs.stack
  refine TO.intro (fn := Try.f77) (c := (Try.f77.body.getD .skip)) Try.func77 (by kernel_rfl) Try.ntmps77 (fun π => by kernel_rfl) (run_par _ hpb (by omega)) ⟨fun τ π hτ => by simp, fun π N hN hp => by simpa using hp 3 (by omega)⟩ fun π => ?_
  conv => arg 2; whnf
  repeat (first | ((with_reducible apply RS.sliceFrom); exact rfl; exact rfl; exact rfl; exact rfl; exact (Int.toNat_of_nonneg (by omega)).symm; omega; exact Nat.le_refl _; omega; (show _ < 18446744073709551616; omega)) | ((with_reducible apply RS.sliceUpto); exact rfl; exact rfl; exact rfl; exact rfl; exact rfl; omega; (show _ < 18446744073709551616; omega)) | ((with_reducible apply RS.nilCheck); exact rfl; exact rfl; exact rfl) | ((with_reducible apply RS.move); exact rfl; exact rfl; exact rfl) | ((with_reducible apply RS.assign); exact rfl; exact rfl; exact rfl) | ((with_reducible apply RS.pickT); exact rfl; exact rfl; exact rfl; exact rfl) | ((with_reducible apply RS.cmpT); exact rfl; exact rfl; exact rfl; exact rfl; (simp only [cmpP]; omega)) | ((with_reducible apply RS.binFit); exact rfl; exact rfl; exact rfl; exact rfl; exact rfl; omega) | ((with_reducible apply RS.lenSl); exact rfl; exact rfl; exact rfl) | ((with_reducible apply RS.fieldAddr); exact rfl; exact rfl; exact rfl) | ((with_reducible apply RS.load1); exact rfl; exact rfl; exact rfl; exact rfl; exact rfl; exact rfl) | ((with_reducible apply RS.nil); exact mixed; kernel_rfl) | ((with_reducible apply W.seq)) | ((with_reducible apply W.reg); kernel_rfl) | ((with_reducible apply W.block)) | ((with_reducible apply W.ret)) | ((with_reducible apply W.condT); kernel_rfl; exact rfl) | ((with_reducible apply thenK_n)) | ((with_reducible apply thenK_r)) | ((with_reducible apply blockK_r)))
  repeat' ((first | (((with_reducible apply RS.splitD); exact rfl; exact rfl) <;> intro _) | ((((with_reducible apply RS.splitG); exact rfl; exact rfl) <;> intro _) <;> (fail_if_success (exact absurd ‹true = false› (by decide))) <;> (fail_if_success (exact absurd ‹false = true› (by decide)))) | (((with_reducible apply W.condD); exact rfl) <;> intro _) | ((((with_reducible apply W.cond); exact rfl) <;> intro _) <;> (fail_if_success (exact absurd ‹true = false› (by decide))) <;> (fail_if_success (exact absurd ‹false = true› (by decide))))) <;> repeat (fail))
  all_goals exact endsK_ret _ (.cons (.tmp rfl) .nil) (by (refine AtO.mk [0, 1, 2, 3, 4] rfl rfl rfl ?_ ?_ rfl <;> (repeat' (first | exact trivial | exact rfl | apply And.intro)); done))
set_option maxRecDepth 100000 in
theorem bytesK_to (B : Hp) (pb : Nat) (hpb : pb < B.n) (s : RunS) (hs : s.ok) (at_ : Int) (n : Nat) (hn : 1 ≤ n ∧ n ≤ 8) (hno : ¬ inData s at_ n) (hin : inStack s at_ n) : TO Try.prog 77 B 5 0 (fun π => [.pointer (some ⟨π 0, 0, none⟩), .int .i64 at_, .int .i64 n]) (runL pb s) (fun π => .slice (some ⟨π 4, 0 + (at_ - (134217728 - (s.stack.length : Int))).toNat * 1, none⟩) n (s.stack.length - (at_ - (134217728 - (s.stack.length : Int))).toNat)) (runL pb s) := by
  obtain ⟨hi1, hi2⟩ := hin
  have hd := hs.data
  have hk := hs.stack
  refine TO.intro (fn := Try.f77) (c := (Try.f77.body.getD .skip)) Try.func77 (by kernel_rfl) Try.ntmps77 (fun π => by kernel_rfl) (run_par _ hpb (by omega)) ⟨fun τ π hτ => by simp, fun π N hN hp => by simpa using hp 4 (by omega)⟩ fun π => ?_
  conv => arg 2; whnf
  repeat (first | ((with_reducible apply RS.sliceFrom); exact rfl; exact rfl; exact rfl; exact rfl; exact (Int.toNat_of_nonneg (by omega)).symm; omega; exact Nat.le_refl _; omega; (show _ < 18446744073709551616; omega)) | ((with_reducible apply RS.sliceUpto); exact rfl; exact rfl; exact rfl; exact rfl; exact rfl; omega; (show _ < 18446744073709551616; omega)) | ((with_reducible apply RS.nilCheck); exact rfl; exact rfl; exact rfl) | ((with_reducible apply RS.move); exact rfl; exact rfl; exact rfl) | ((with_reducible apply RS.assign); exact rfl; exact rfl; exact rfl) | ((with_reducible apply RS.pickT); exact rfl; exact rfl; exact rfl; exact rfl) | ((with_reducible apply RS.cmpT); exact rfl; exact rfl; exact rfl; exact rfl; (simp only [cmpP]; omega)) | ((with_reducible apply RS.cmpF); exact rfl; exact rfl; exact rfl; exact rfl; (simp only [cmpN]; omega)) | ((with_reducible apply RS.binFit); exact rfl; exact rfl; exact rfl; exact rfl; exact rfl; omega) | ((with_reducible apply RS.lenSl); exact rfl; exact rfl; exact rfl) | ((with_reducible apply RS.fieldAddr); exact rfl; exact rfl; exact rfl) | ((with_reducible apply RS.load1); exact rfl; exact rfl; exact rfl; exact rfl; exact rfl; exact rfl) | ((with_reducible apply RS.nil); exact mixed; kernel_rfl) | ((with_reducible apply W.seq)) | ((with_reducible apply W.reg); kernel_rfl) | ((with_reducible apply W.block)) | ((with_reducible apply W.ret)) | ((with_reducible apply W.condT); kernel_rfl; exact rfl) | ((with_reducible apply W.condF); kernel_rfl; exact rfl) | ((with_reducible apply thenK_n)) | ((with_reducible apply thenK_r)) | ((with_reducible apply blockK_r)))
  repeat' ((first | (((with_reducible apply RS.splitD); exact rfl; exact rfl) <;> intro _) | ((((with_reducible apply RS.splitG); exact rfl; exact rfl) <;> intro _) <;> (fail_if_success (exact absurd ‹true = false› (by decide))) <;> (fail_if_success (exact absurd ‹false = true› (by decide)))) | (((with_reducible apply W.condD); exact rfl) <;> intro _) | ((((with_reducible apply W.cond); exact rfl) <;> intro _) <;> (fail_if_success (exact absurd ‹true = false› (by decide))) <;> (fail_if_success (exact absurd ‹false = true› (by decide))))) <;> repeat (fail))
  all_goals first | exact endsK_ret _ (.cons (.tmp rfl) .nil) (by (refine AtO.mk [0, 1, 2, 3, 4] rfl rfl rfl ?_ ?_ rfl <;> (repeat' (first | exact trivial | exact rfl | apply And.intro)); done)) | (exfalso; exact hno ⟨by omega, by omega⟩) | (exfalso; omega)
set_option maxRecDepth 100000 in
theorem bytesN_to (B : Hp) (pb : Nat) (hpb : pb < B.n) (s : RunS) (hs : s.ok) (at_ : Int) (hat : -9223372036854775808 ≤ at_ ∧ at_ ≤ 9223372036854775807) (n : Nat) (hn : 1 ≤ n ∧ n ≤ 8) (hno : ¬ inData s at_ n) (hno2 : ¬ inStack s at_ n) : TO Try.prog 77 B 5 0 (fun π => [.pointer (some ⟨π 0, 0, none⟩), .int .i64 at_, .int .i64 n]) (runL pb s) (fun π => .slice none 0 0) (runL pb (stopS s 40)) := by
  have hd := hs.data
  have hk := hs.stack
  refine TO.intro (fn := Try.f77) (c := (Try.f77.body.getD .skip)) Try.func77 (by kernel_rfl) Try.ntmps77 (fun π => by kernel_rfl) (run_par _ hpb (by omega)) ⟨fun τ π hτ => by simp, fun π N hN hp => by simp⟩ fun π => ?_
  conv => arg 2; whnf
  repeat (first | ((with_reducible apply RS.nilCheck); exact rfl; exact rfl; exact rfl) | ((with_reducible apply RS.move); exact rfl; exact rfl; exact rfl) | ((with_reducible apply RS.assign); exact rfl; exact rfl; exact rfl) | ((with_reducible apply RS.cmpC); exact rfl; exact rfl; exact rfl; exact rfl; exact rfl) | ((with_reducible apply RS.binFit); exact rfl; exact rfl; exact rfl; exact rfl; exact rfl; omega) | ((with_reducible apply RS.lenSl); exact rfl; exact rfl; exact rfl) | ((with_reducible apply RS.fieldAddr); exact rfl; exact rfl; exact rfl) | ((with_reducible apply RS.load1); exact rfl; exact rfl; exact rfl; exact rfl; exact rfl; exact rfl) | ((with_reducible apply RS.nil); exact mixed; kernel_rfl) | ((with_reducible apply W.seq)) | ((with_reducible apply W.reg); kernel_rfl) | ((with_reducible apply W.block)) | ((with_reducible apply thenK_n)))
  repeat' ((first | (((with_reducible apply RS.splitD); exact rfl; exact rfl) <;> intro _) | ((((with_reducible apply RS.splitG); exact rfl; exact rfl) <;> intro _) <;> (fail_if_success (exact absurd ‹true = false› (by decide))) <;> (fail_if_success (exact absurd ‹false = true› (by decide)))) | (((with_reducible apply W.condD); exact rfl) <;> intro _) | ((((with_reducible apply W.cond); exact rfl) <;> intro _) <;> (fail_if_success (exact absurd ‹true = false› (by decide))) <;> (fail_if_success (exact absurd ‹false = true› (by decide))))) <;> repeat (first | ((with_reducible apply (RS.callO (vs := []) [0, 1, 2, 3, 4] 0)); exact rfl; exact rfl; exact stop_to _ pb hpb s 40; exact rfl; exact rfl; exact ⟨rfl, rfl, rfl, rfl, rfl, trivial⟩; exact stop_fresh _ _ _ _) | ((with_reducible apply RS.sliceFrom); exact rfl; exact rfl; exact rfl; exact rfl; exact (Int.toNat_of_nonneg (by omega)).symm; omega; exact Nat.le_refl _; omega; (show _ < 18446744073709551616; omega)) | ((with_reducible apply RS.sliceUpto); exact rfl; exact rfl; exact rfl; exact rfl; exact rfl; omega; (show _ < 18446744073709551616; omega)) | ((with_reducible apply RS.nilCheck); exact rfl; exact rfl; exact rfl) | ((with_reducible apply RS.move); exact rfl; exact rfl; exact rfl) | ((with_reducible apply RS.assign); exact rfl; exact rfl; exact rfl) | ((with_reducible apply RS.pickT); exact rfl; exact rfl; exact rfl; exact rfl) | ((with_reducible apply RS.pickF); exact rfl; exact rfl; exact rfl; exact rfl) | ((with_reducible apply RS.cmpF); exact rfl; exact rfl; exact rfl; exact rfl; (simp only [cmpN]; omega)) | ((with_reducible apply RS.binFit); exact rfl; exact rfl; exact rfl; exact rfl; exact rfl; omega) | ((with_reducible apply RS.bin); exact rfl; exact rfl; exact rfl; exact rfl; exact rfl) | ((with_reducible apply RS.lenSl); exact rfl; exact rfl; exact rfl) | ((with_reducible apply RS.fieldAddr); exact rfl; exact rfl; exact rfl) | ((with_reducible apply RS.load1); exact rfl; exact rfl; exact rfl; exact rfl; exact rfl; exact rfl) | ((with_reducible apply RS.skip); exact rfl; exact rfl) | ((with_reducible apply RS.nil); exact mixed; kernel_rfl) | ((with_reducible apply W.seq)) | ((with_reducible apply W.reg); kernel_rfl) | ((with_reducible apply W.ret)) | ((with_reducible apply W.skip)) | ((with_reducible apply W.condF); kernel_rfl; exact rfl) | ((with_reducible apply thenK_n)) | ((with_reducible apply thenK_r)) | ((with_reducible apply blockK_n)) | ((with_reducible apply blockK_r))))
  all_goals first | exact endsK_ret _ (.cons (.tmp rfl) .nil) (by (refine AtO.mk [0, 1, 2, 3, 4] rfl rfl rfl ?_ ?_ rfl <;> (repeat' (first | exact trivial | exact rfl | apply And.intro)); done)) | (exfalso; exact hno ⟨by omega, by omega⟩) | (exfalso; exact hno2 ⟨by omega, by omega⟩) | (exfalso; omega) | skip
end Go.Proofs.Ytjhloakacicdiaa
namespace Go.Proofs.Ytjhloakacicdiaa
open Go.AH
attribute [local irreducible] W RS
def leakS (s : RunS) (x : LeakS) : RunS := { s with leaks := x :: s.leaks }
def lkL (pb : Nat) (s : RunS) (π : Nat → Nat) : List (Nat × Option Blk) := [(0, some ⟨⟨runC pb s (π 1) (π 5) (π 3) (π 4)⟩, 87⟩), (1, rowBk intW 2 s.out), (2, none), (3, some ⟨⟨bytesC s.data⟩, 5⟩), (4, some ⟨⟨bytesC s.stack⟩, 5⟩), (5, rowBk leakW 90 s.leaks)]
theorem lk_par {n K : Nat} {pb : Nat} (s : RunS) (hp : pb < n) (hK : 6 ≤ K) : ParL n K (lkL pb s) 6 := by
  refine ⟨ParB_row (fun a v hv => ?_) s.leaks, ParB_free fun v hv => ?_, ParB_free fun v hv => ?_, ⟨fun τ π hτ => rfl, fun π N b hN hp hb => by cases hb⟩, ParB_row (fun a v hv => ?_) s.out, ⟨fun τ π hτ => ?_, fun π N b hN hpi hb u hu => ?_⟩, trivial⟩
  · simp only [leakW, List.mem_cons, List.not_mem_nil, or_false] at hv
    rcases hv with rfl | rfl | rfl <;> simp
  · obtain ⟨x, _, rfl⟩ := List.mem_map.1 hv; simp
  · obtain ⟨x, _, rfl⟩ := List.mem_map.1 hv; simp
  · simp only [intW, List.mem_cons, List.not_mem_nil, or_false] at hv
    subst hv; simp
  · show some _ = some _
    congr 1
    unfold subB runC
    congr 1
    apply Array.ext'
    simp [sub_row, hτ pb hp]
  · have hb : some _ = some b := hb
    injection hb with hb
    subst hb
    have h1 := hpi 1 (by omega)
    have h2 := hpi 5 (by omega)
    have h3 := hpi 3 (by omega)
    have h4 := hpi 4 (by omega)
    have hu : u ∈ runC pb s (π 1) (π 5) (π 3) (π 4) := by simpa using hu
    simp only [runC, List.mem_cons, List.not_mem_nil, or_false] at hu
    rcases hu with rfl | rfl | rfl | rfl | rfl | rfl | rfl | rfl | rfl | rfl | rfl
    all_goals first | exact bnd_row (by assumption) | (simp; done) | (simp; omega)
def loadStep (v b : Int) (i : Nat) : Int := IntKind.i64.wrap ((BitVec.ofInt IntKind.i64.bits v ||| BitVec.ofInt IntKind.i64.bits (IntKind.i64.wrap (IntKind.i64.wrap b * 2 ^ (min (8 * (i : Int)).toNat IntKind.i64.bits)))).toNat : Int)
def loadV (dl : List Int) (o : Nat) : Nat → Int
  | 0 => 0
  | i + 1 => loadStep (loadV dl o i) (dl.getD (o + i) 0) i
theorem AllB.opt {hl : List (Nat × Option Blk)} {m : List Nat} {i j : Nat} {ob : Option Blk} {l : List (Nat × Option Blk)} (hj : nthL m i = some j) (h : lookB hl j = ob) (ht : AllB hl m l) : AllB hl m ((i, ob) :: l) := by
  cases ob with
  | none => exact ht
  | some b => exact ⟨by rw [hj]; exact h, ht⟩
theorem row_fresh {α : Type} (w : α → List Value) (e : TypeId) (l : List α) : rowBk w e l = none ∨ ∃ b, rowBk w e l = some b := by
  cases l with
  | nil => exact .inl rfl
  | cons a l => exact .inr ⟨_, rfl⟩
theorem run_fresh (pb : Nat) (s : RunS) (π : Nat → Nat) : FreshL (runL pb s π) (runL pb s π) 5 := ⟨.inr ⟨_, rfl⟩, .inr ⟨_, rfl⟩, row_fresh _ _ _, row_fresh _ _ _, .inr ⟨_, rfl⟩, trivial⟩
set_option maxHeartbeats 2000000 in
set_option maxRecDepth 100000 in
theorem loadD_to (B : Hp) (pb : Nat) (hpb : pb < B.n) (s : RunS) (at_ : Int) (hs : (leakS s ⟨2, at_, 0⟩).ok) (n : Nat) (hn : 1 ≤ n ∧ n ≤ 8) (sg : Bool) (hin : inData s at_ n) : TO Try.prog 69 B 5 1 (fun π => [.pointer (some ⟨π 0, 0, none⟩), .int .i64 at_, .int .i64 n, .bool sg]) (runL pb s) (fun π => .int .i64 (widenS (loadV s.data (at_ - 65536).toNat n) n sg)) (lkL pb (leakS s ⟨2, at_, 0⟩)) := by
  have hd : s.data.length ≤ 1000000 := hs.data
  have hlk : s.leaks.length + 1 ≤ 1000000000 := hs.leaks
  have hin' := hin
  obtain ⟨hi1, hi2⟩ := hin'
  refine TO.intro (fn := Try.f69) (c := (Try.f69.body.getD .skip)) Try.func69 (by kernel_rfl) Try.ntmps69 (fun π => by kernel_rfl) (lk_par _ hpb (by omega)) ⟨fun τ π hτ => by simp, fun π N hN hp => by simp⟩ fun π => ?_
  conv => arg 2; whnf
  repeat (first | ((with_reducible apply (RS.appendRow (w := leakW) (l0 := s.leaks) (q := ⟨2, at_, 0⟩))); exact rfl; exact rfl; exact rfl; exact rfl; exact rfl; exact rfl; exact rfl; exact rfl; exact rfl; exact rfl; exact rfl; exact Nat.le_of_ble_eq_true rfl; exact fun _ => rfl; exact rfl; omega; omega) | ((with_reducible apply RS.buildSlice); exact rfl; exact rfl; exact rfl; exact rfl; exact rfl; exact rfl; exact rfl; exact rfl) | ((with_reducible apply (RS.callO (vs := []) [0, 1, 6, 3, 4] 0)); exact rfl; exact rfl; exact bytesD_to B pb hpb (leakS s ⟨2, at_, 0⟩) hs at_ n hn hin; exact rfl; exact rfl; exact ⟨rfl, rfl, rfl, rfl, rfl, trivial⟩; exact run_fresh _ _ _) | ((with_reducible apply RS.nilCheck); exact rfl; exact rfl; exact rfl) | ((with_reducible apply RS.move); exact rfl; exact rfl; exact rfl) | ((with_reducible apply RS.assign); exact rfl; exact rfl; exact rfl) | ((with_reducible apply RS.lenSl); exact rfl; exact rfl; exact rfl) | ((with_reducible apply RS.fieldAddr); exact rfl; exact rfl; exact rfl) | ((with_reducible apply RS.load1); exact rfl; exact rfl; exact rfl; exact rfl; exact rfl; exact rfl) | ((with_reducible apply RS.store); exact rfl; exact rfl; exact rfl; exact rfl; exact rfl; exact Nat.le_of_ble_eq_true rfl; exact rfl; exact rfl; exact rfl) | ((with_reducible apply RS.build); exact rfl; exact rfl; exact rfl; exact rfl) | ((with_reducible apply RS.nil); exact mixed; kernel_rfl) | ((with_reducible apply W.seq)) | ((with_reducible apply W.reg); kernel_rfl) | ((with_reducible apply W.block)) | ((with_reducible apply thenK_n)))
  refine W.loopP (X := Nat × Int) (fun π y => [(0, .pointer (some ⟨π 0, 0, none⟩)), (2, .int .i64 n), (3, .bool sg), (9, .int .i64 y.2), (28, .slice (some ⟨π 3, 0 + (at_ - 65536).toNat * 1, none⟩) n (s.data.length - (at_ - 65536).toNat)), (29, .int .i64 n), (30, .int .i64 y.1)]) (fun _ => B) (fun π _ => lkL pb (leakS s ⟨2, at_, 0⟩) π) (fun π' y => EqUp π' π 5 ∧ y.1 ≤ n ∧ y.2 = loadV s.data (at_ - 65536).toNat y.1) (fun y => n - y.1) [0, 1, 2, 3, 4, 6] (0, 0) ⟨⟨rfl, rfl, rfl, rfl, rfl, trivial⟩, Nat.zero_le _, rfl⟩ (by (refine FitL.mk ?_ ?_ ?_ ?_ <;> (repeat' (first | exact trivial | exact rfl | (refine AllB.opt rfl rfl ?_) | apply And.intro)); done)) ?_
  rintro π' ⟨i, v⟩ ⟨hE, hI, hv⟩
  dsimp only at hI hv ⊢
  subst hv
  by_cases hlt : i < n
  · have hb : s.data[(at_ - 65536).toNat + i]? = some (s.data.getD ((at_ - 65536).toNat + i) 0) := by
      rw [List.getD_eq_getElem?_getD, List.getElem?_eq_getElem (by omega)]; rfl
    have hbyte : (bytesC s.data)[0 + (at_ - 65536).toNat * 1 + i * 1]? = some (.int .u8 (s.data.getD ((at_ - 65536).toNat + i) 0)) := by
      unfold bytesC; rw [Nat.zero_add, Nat.mul_one, Nat.mul_one, List.getElem?_map, hb]; rfl
    repeat (first | ((with_reducible apply RS.shl); exact rfl; exact rfl; exact rfl; exact rfl; omega) | ((with_reducible apply RS.indexAddrS); exact rfl; exact rfl; exact rfl; exact rfl; exact rfl; omega) | ((with_reducible apply RS.load1At); exact rfl; exact rfl; exact rfl; exact rfl; exact rfl; exact hbyte) | ((with_reducible apply RS.move); exact rfl; exact rfl; exact rfl) | ((with_reducible apply RS.assign); exact rfl; exact rfl; exact rfl) | ((with_reducible apply RS.cmpT); exact rfl; exact rfl; exact rfl; exact rfl; (simp only [cmpP]; omega)) | ((with_reducible apply RS.add1); exact rfl; exact rfl; exact rfl; exact rfl; omega) | ((with_reducible apply RS.binFit); exact rfl; exact rfl; exact rfl; exact rfl; exact rfl; omega) | ((with_reducible apply RS.bin); exact rfl; exact rfl; exact rfl; exact rfl; exact rfl) | ((with_reducible apply RS.convI); exact rfl; exact rfl; exact rfl) | ((with_reducible apply RS.nil); exact mixed; kernel_rfl) | ((with_reducible apply W.seq)) | ((with_reducible apply W.reg); kernel_rfl) | ((with_reducible apply W.block)) | ((with_reducible apply W.skip)) | ((with_reducible apply W.condT); kernel_rfl; exact rfl) | ((with_reducible apply thenK_n)) | ((with_reducible apply blockK_n)))
    exact roundP_n (i + 1, loadV s.data (at_ - 65536).toNat (i + 1)) [0, 1, 2, 3, 4, 5] rfl rfl ⟨hE, by dsimp only; omega, rfl⟩ (by dsimp only; omega) (by (refine FitL.mk ?_ ?_ ?_ ?_ <;> (repeat' (first | exact trivial | exact rfl | (refine AllB.opt rfl rfl ?_) | apply And.intro)); done))
  · have hni : i = n := by omega
    repeat (first | ((with_reducible apply RS.callR true []); exact rfl; exact rfl; exact rfl; exact fun H hH => widen_tf _ _ _ H; exact Nm_free (by simp)) | ((with_reducible apply RS.move); exact rfl; exact rfl; exact rfl) | ((with_reducible apply RS.assign); exact rfl; exact rfl; exact rfl) | ((with_reducible apply RS.cmpF); exact rfl; exact rfl; exact rfl; exact rfl; (simp only [cmpN]; omega)) | ((with_reducible apply RS.nil); exact mixed; kernel_rfl) | ((with_reducible apply W.seq)) | ((with_reducible apply W.reg); kernel_rfl) | ((with_reducible apply W.exit)) | ((with_reducible apply W.ret)) | ((with_reducible apply W.condF); kernel_rfl; exact rfl) | ((with_reducible apply thenK_n)) | ((with_reducible apply thenK_e)) | ((with_reducible apply blockK_hit); exact rfl) | ((with_reducible apply roundP_e)))
    refine endsK_ret _ (.cons (.tmp rfl) .nil) (AtO.mk [0, 1, 2, 3, 4, 5] rfl rfl rfl hE (by (repeat' (first | exact trivial | exact rfl | apply And.intro)); done) ?_)
    rw [← hni]; rfl
set_option maxHeartbeats 2000000 in
set_option maxRecDepth 100000 in
theorem loadK_to (B : Hp) (pb : Nat) (hpb : pb < B.n) (s : RunS) (at_ : Int) (hs : (leakS s ⟨2, at_, 0⟩).ok) (n : Nat) (hn : 1 ≤ n ∧ n ≤ 8) (sg : Bool) (hno : ¬ inData s at_ n) (hin : inStack s at_ n) : TO Try.prog 69 B 5 1 (fun π => [.pointer (some ⟨π 0, 0, none⟩), .int .i64 at_, .int .i64 n, .bool sg]) (runL pb s) (fun π => .int .i64 (widenS (loadV s.stack (at_ - (134217728 - (s.stack.length : Int))).toNat n) n sg)) (lkL pb (leakS s ⟨2, at_, 0⟩)) := by
  have hd : s.stack.length ≤ 1000000 := hs.stack
  have hlk : s.leaks.length + 1 ≤ 1000000000 := hs.leaks
  have hin' := hin
  obtain ⟨hi1, hi2⟩ := hin'
  refine TO.intro (fn := Try.f69) (c := (Try.f69.body.getD .skip)) Try.func69 (by kernel_rfl) Try.ntmps69 (fun π => by kernel_rfl) (lk_par _ hpb (by omega)) ⟨fun τ π hτ => by simp, fun π N hN hp => by simp⟩ fun π => ?_
  conv => arg 2; whnf
  repeat (first | ((with_reducible apply (RS.appendRow (w := leakW) (l0 := s.leaks) (q := ⟨2, at_, 0⟩))); exact rfl; exact rfl; exact rfl; exact rfl; exact rfl; exact rfl; exact rfl; exact rfl; exact rfl; exact rfl; exact rfl; exact Nat.le_of_ble_eq_true rfl; exact fun _ => rfl; exact rfl; omega; omega) | ((with_reducible apply RS.buildSlice); exact rfl; exact rfl; exact rfl; exact rfl; exact rfl; exact rfl; exact rfl; exact rfl) | ((with_reducible apply (RS.callO (vs := []) [0, 1, 6, 3, 4] 0)); exact rfl; exact rfl; exact bytesK_to B pb hpb (leakS s ⟨2, at_, 0⟩) hs at_ n hn hno hin; exact rfl; exact rfl; exact ⟨rfl, rfl, rfl, rfl, rfl, trivial⟩; exact run_fresh _ _ _) | ((with_reducible apply RS.nilCheck); exact rfl; exact rfl; exact rfl) | ((with_reducible apply RS.move); exact rfl; exact rfl; exact rfl) | ((with_reducible apply RS.assign); exact rfl; exact rfl; exact rfl) | ((with_reducible apply RS.lenSl); exact rfl; exact rfl; exact rfl) | ((with_reducible apply RS.fieldAddr); exact rfl; exact rfl; exact rfl) | ((with_reducible apply RS.load1); exact rfl; exact rfl; exact rfl; exact rfl; exact rfl; exact rfl) | ((with_reducible apply RS.store); exact rfl; exact rfl; exact rfl; exact rfl; exact rfl; exact Nat.le_of_ble_eq_true rfl; exact rfl; exact rfl; exact rfl) | ((with_reducible apply RS.build); exact rfl; exact rfl; exact rfl; exact rfl) | ((with_reducible apply RS.nil); exact mixed; kernel_rfl) | ((with_reducible apply W.seq)) | ((with_reducible apply W.reg); kernel_rfl) | ((with_reducible apply W.block)) | ((with_reducible apply thenK_n)))
  refine W.loopP (X := Nat × Int) (fun π y => [(0, .pointer (some ⟨π 0, 0, none⟩)), (2, .int .i64 n), (3, .bool sg), (9, .int .i64 y.2), (28, .slice (some ⟨π 4, 0 + (at_ - (134217728 - (s.stack.length : Int))).toNat * 1, none⟩) n (s.stack.length - (at_ - (134217728 - (s.stack.length : Int))).toNat)), (29, .int .i64 n), (30, .int .i64 y.1)]) (fun _ => B) (fun π _ => lkL pb (leakS s ⟨2, at_, 0⟩) π) (fun π' y => EqUp π' π 5 ∧ y.1 ≤ n ∧ y.2 = loadV s.stack (at_ - (134217728 - (s.stack.length : Int))).toNat y.1) (fun y => n - y.1) [0, 1, 2, 3, 4, 6] (0, 0) ⟨⟨rfl, rfl, rfl, rfl, rfl, trivial⟩, Nat.zero_le _, rfl⟩ (by (refine FitL.mk ?_ ?_ ?_ ?_ <;> (repeat' (first | exact trivial | exact rfl | (refine AllB.opt rfl rfl ?_) | apply And.intro)); done)) ?_
  rintro π' ⟨i, v⟩ ⟨hE, hI, hv⟩
  dsimp only at hI hv ⊢
  subst hv
  by_cases hlt : i < n
  · have hb : s.stack[(at_ - (134217728 - (s.stack.length : Int))).toNat + i]? = some (s.stack.getD ((at_ - (134217728 - (s.stack.length : Int))).toNat + i) 0) := by
      rw [List.getD_eq_getElem?_getD, List.getElem?_eq_getElem (by omega)]; rfl
    have hbyte : (bytesC s.stack)[0 + (at_ - (134217728 - (s.stack.length : Int))).toNat * 1 + i * 1]? = some (.int .u8 (s.stack.getD ((at_ - (134217728 - (s.stack.length : Int))).toNat + i) 0)) := by
      unfold bytesC; rw [Nat.zero_add, Nat.mul_one, Nat.mul_one, List.getElem?_map, hb]; rfl
    repeat (first | ((with_reducible apply RS.shl); exact rfl; exact rfl; exact rfl; exact rfl; omega) | ((with_reducible apply RS.indexAddrS); exact rfl; exact rfl; exact rfl; exact rfl; exact rfl; omega) | ((with_reducible apply RS.load1At); exact rfl; exact rfl; exact rfl; exact rfl; exact rfl; exact hbyte) | ((with_reducible apply RS.move); exact rfl; exact rfl; exact rfl) | ((with_reducible apply RS.assign); exact rfl; exact rfl; exact rfl) | ((with_reducible apply RS.cmpT); exact rfl; exact rfl; exact rfl; exact rfl; (simp only [cmpP]; omega)) | ((with_reducible apply RS.add1); exact rfl; exact rfl; exact rfl; exact rfl; omega) | ((with_reducible apply RS.binFit); exact rfl; exact rfl; exact rfl; exact rfl; exact rfl; omega) | ((with_reducible apply RS.bin); exact rfl; exact rfl; exact rfl; exact rfl; exact rfl) | ((with_reducible apply RS.convI); exact rfl; exact rfl; exact rfl) | ((with_reducible apply RS.nil); exact mixed; kernel_rfl) | ((with_reducible apply W.seq)) | ((with_reducible apply W.reg); kernel_rfl) | ((with_reducible apply W.block)) | ((with_reducible apply W.skip)) | ((with_reducible apply W.condT); kernel_rfl; exact rfl) | ((with_reducible apply thenK_n)) | ((with_reducible apply blockK_n)))
    exact roundP_n (i + 1, loadV s.stack (at_ - (134217728 - (s.stack.length : Int))).toNat (i + 1)) [0, 1, 2, 3, 4, 5] rfl rfl ⟨hE, by dsimp only; omega, rfl⟩ (by dsimp only; omega) (by (refine FitL.mk ?_ ?_ ?_ ?_ <;> (repeat' (first | exact trivial | exact rfl | (refine AllB.opt rfl rfl ?_) | apply And.intro)); done))
  · have hni : i = n := by omega
    repeat (first | ((with_reducible apply RS.callR true []); exact rfl; exact rfl; exact rfl; exact fun H hH => widen_tf _ _ _ H; exact Nm_free (by simp)) | ((with_reducible apply RS.move); exact rfl; exact rfl; exact rfl) | ((with_reducible apply RS.assign); exact rfl; exact rfl; exact rfl) | ((with_reducible apply RS.cmpF); exact rfl; exact rfl; exact rfl; exact rfl; (simp only [cmpN]; omega)) | ((with_reducible apply RS.nil); exact mixed; kernel_rfl) | ((with_reducible apply W.seq)) | ((with_reducible apply W.reg); kernel_rfl) | ((with_reducible apply W.exit)) | ((with_reducible apply W.ret)) | ((with_reducible apply W.condF); kernel_rfl; exact rfl) | ((with_reducible apply thenK_n)) | ((with_reducible apply thenK_e)) | ((with_reducible apply blockK_hit); exact rfl) | ((with_reducible apply roundP_e)))
    refine endsK_ret _ (.cons (.tmp rfl) .nil) (AtO.mk [0, 1, 2, 3, 4, 5] rfl rfl rfl hE (by (repeat' (first | exact trivial | exact rfl | apply And.intro)); done) ?_)
    rw [← hni]; rfl
set_option maxHeartbeats 2000000 in
set_option maxRecDepth 100000 in
theorem loadN_to (B : Hp) (pb : Nat) (hpb : pb < B.n) (s : RunS) (at_ : Int) (hs : (leakS s ⟨2, at_, 0⟩).ok) (hat : -9223372036854775808 ≤ at_ ∧ at_ ≤ 9223372036854775807) (n : Nat) (hn : 1 ≤ n ∧ n ≤ 8) (sg : Bool) (hno : ¬ inData s at_ n) (hno2 : ¬ inStack s at_ n) : TO Try.prog 69 B 5 1 (fun π => [.pointer (some ⟨π 0, 0, none⟩), .int .i64 at_, .int .i64 n, .bool sg]) (runL pb s) (fun π => .int .i64 (widenS 0 n sg)) (lkL pb (stopS (leakS s ⟨2, at_, 0⟩) 40)) := by
  have hlk : s.leaks.length + 1 ≤ 1000000000 := hs.leaks
  refine TO.intro (fn := Try.f69) (c := (Try.f69.body.getD .skip)) Try.func69 (by kernel_rfl) Try.ntmps69 (fun π => by kernel_rfl) (lk_par _ hpb (by omega)) ⟨fun τ π hτ => by simp, fun π N hN hp => by simp⟩ fun π => ?_
  conv => arg 2; whnf
  repeat (first | ((with_reducible apply (RS.appendRow (w := leakW) (l0 := s.leaks) (q := ⟨2, at_, 0⟩))); exact rfl; exact rfl; exact rfl; exact rfl; exact rfl; exact rfl; exact rfl; exact rfl; exact rfl; exact rfl; exact rfl; exact Nat.le_of_ble_eq_true rfl; exact fun _ => rfl; exact rfl; omega; omega) | ((with_reducible apply RS.buildSlice); exact rfl; exact rfl; exact rfl; exact rfl; exact rfl; exact rfl; exact rfl; exact rfl) | ((with_reducible apply (RS.callO (vs := []) [0, 1, 6, 3, 4] 0)); exact rfl; exact rfl; exact bytesN_to B pb hpb (leakS s ⟨2, at_, 0⟩) hs at_ hat n hn hno hno2; exact rfl; exact rfl; exact ⟨rfl, rfl, rfl, rfl, rfl, trivial⟩; exact stop_fresh _ _ _ _) | ((with_reducible apply RS.nilCheck); exact rfl; exact rfl; exact rfl) | ((with_reducible apply RS.move); exact rfl; exact rfl; exact rfl) | ((with_reducible apply RS.assign); exact rfl; exact rfl; exact rfl) | ((with_reducible apply RS.lenSl); exact rfl; exact rfl; exact rfl) | ((with_reducible apply RS.fieldAddr); exact rfl; exact rfl; exact rfl) | ((with_reducible apply RS.load1); exact rfl; exact rfl; exact rfl; exact rfl; exact rfl; exact rfl) | ((with_reducible apply RS.store); exact rfl; exact rfl; exact rfl; exact rfl; exact rfl; exact Nat.le_of_ble_eq_true rfl; exact rfl; exact rfl; exact rfl) | ((with_reducible apply RS.build); exact rfl; exact rfl; exact rfl; exact rfl) | ((with_reducible apply RS.nil); exact mixed; kernel_rfl) | ((with_reducible apply W.seq)) | ((with_reducible apply W.reg); kernel_rfl) | ((with_reducible apply W.block)) | ((with_reducible apply thenK_n)))
  refine W.loopP (X := Unit) (fun π y => [(0, .pointer (some ⟨π 0, 0, none⟩)), (2, .int .i64 n), (3, .bool sg), (9, .int .i64 0), (28, .slice none 0 0), (29, .int .i64 (0 : Nat)), (30, .int .i64 0)]) (fun _ => B) (fun π _ => lkL pb (stopS (leakS s ⟨2, at_, 0⟩) 40) π) (fun π' y => EqUp π' π 5) (fun y => 0) [0, 1, 2, 3, 4, 6] () ⟨rfl, rfl, rfl, rfl, rfl, trivial⟩ (by (refine FitL.mk ?_ ?_ ?_ ?_ <;> (repeat' (first | exact trivial | exact rfl | (refine AllB.opt rfl rfl ?_) | apply And.intro)); done)) ?_
  intro π' _ hE
  repeat (first | ((with_reducible apply RS.callR true []); exact rfl; exact rfl; exact rfl; exact fun H hH => widen_tf _ _ _ H; exact Nm_free (by simp)) | ((with_reducible apply RS.move); exact rfl; exact rfl; exact rfl) | ((with_reducible apply RS.assign); exact rfl; exact rfl; exact rfl) | ((with_reducible apply RS.cmpF); exact rfl; exact rfl; exact rfl; exact rfl; (simp only [cmpN]; omega)) | ((with_reducible apply RS.nil); exact mixed; kernel_rfl) | ((with_reducible apply W.seq)) | ((with_reducible apply W.reg); kernel_rfl) | ((with_reducible apply W.exit)) | ((with_reducible apply W.ret)) | ((with_reducible apply W.condF); kernel_rfl; exact rfl) | ((with_reducible apply thenK_n)) | ((with_reducible apply thenK_e)) | ((with_reducible apply blockK_hit); exact rfl) | ((with_reducible apply roundP_e)))
  refine endsK_ret _ (.cons (.tmp rfl) .nil) (AtO.mk [0, 1, 2, 3, 4, 5] rfl rfl rfl hE (by (repeat' (first | exact trivial | exact rfl | apply And.intro)); done) ?_)
  rfl
end Go.Proofs.Ytjhloakacicdiaa
namespace Go.Proofs.Ytjhloakacicdiaa
open Go.AH
attribute [local irreducible] W RS
def storeByte (v : Int) (i : Nat) : Int := IntKind.u8.wrap (v.fdiv (2 ^ (min (8 * (i : Int)).toNat IntKind.i64.bits)))
def storeV (d : List Int) (o : Nat) (v : Int) : Nat → List Int
  | 0 => d
  | i + 1 => (storeV d o v i).set (o + i) (storeByte v i)
theorem storeV_len (d : List Int) (o : Nat) (v : Int) : ∀ i, (storeV d o v i).length = d.length := by
  intro i
  induction i with
  | zero => rfl
  | succ i ih => rw [storeV, List.length_set, ih]
theorem setL_bytes (d : List Int) (k : Nat) (b : Int) : setL (bytesC d) k [.int .u8 b] = bytesC (d.set k b) := by
  rw [setL_cons, setL_nil]; unfold bytesC; rw [List.map_set]
theorem runC_data (pb : Nat) (s : RunS) (d : List Int) (o l dd t : Nat) (h : d.length = s.data.length) : runC pb { s with data := d } o l dd t = runC pb s o l dd t := by
  unfold runC; dsimp only; rw [h]
theorem runC_stack (pb : Nat) (s : RunS) (d : List Int) (o l dd t : Nat) (h : d.length = s.stack.length) : runC pb { s with stack := d } o l dd t = runC pb s o l dd t := by
  unfold runC; dsimp only; rw [h]
def stL (pb : Nat) (s : RunS) (d k : List Int) (π : Nat → Nat) : List (Nat × Option Blk) := [(0, some ⟨⟨runC pb s (π 1) (π 5) (π 3) (π 4)⟩, 87⟩), (1, rowBk intW 2 s.out), (2, none), (3, some ⟨⟨bytesC d⟩, 5⟩), (4, some ⟨⟨bytesC k⟩, 5⟩), (5, rowBk leakW 90 s.leaks)]
set_option maxHeartbeats 2000000 in
set_option maxRecDepth 100000 in
theorem storeD_to (B : Hp) (pb : Nat) (hpb : pb < B.n) (s : RunS) (at_ : Int) (hs : (leakS s ⟨3, at_, 0⟩).ok) (n : Nat) (hn : 1 ≤ n ∧ n ≤ 8) (v : Int) (hin : inData s at_ n) : TO Try.prog 70 B 5 1 (fun π => [.pointer (some ⟨π 0, 0, none⟩), .int .i64 at_, .int .i64 n, .int .i64 v]) (runL pb s) (fun π => .tuple #[]) (lkL pb { leakS s ⟨3, at_, 0⟩ with data := storeV s.data (at_ - 65536).toNat v n }) := by
  have hd : s.data.length ≤ 1000000 := hs.data
  have hlk : s.leaks.length + 1 ≤ 1000000000 := hs.leaks
  have hin' := hin
  obtain ⟨hi1, hi2⟩ := hin'
  refine TO.intro (fn := Try.f70) (c := (Try.f70.body.getD .skip)) Try.func70 (by kernel_rfl) Try.ntmps70 (fun π => by kernel_rfl) (lk_par _ hpb (by omega)) ⟨fun τ π hτ => by simp, fun π N hN hp => by simp⟩ fun π => ?_
  conv => arg 2; whnf
  repeat (first | ((with_reducible apply (RS.appendRow (w := leakW) (l0 := s.leaks) (q := ⟨3, at_, 0⟩))); exact rfl; exact rfl; exact rfl; exact rfl; exact rfl; exact rfl; exact rfl; exact rfl; exact rfl; exact rfl; exact rfl; exact Nat.le_of_ble_eq_true rfl; exact fun _ => rfl; exact rfl; omega; omega) | ((with_reducible apply RS.buildSlice); exact rfl; exact rfl; exact rfl; exact rfl; exact rfl; exact rfl; exact rfl; exact rfl) | ((with_reducible apply (RS.callO (vs := []) [0, 1, 6, 3, 4] 0)); exact rfl; exact rfl; exact bytesD_to B pb hpb (leakS s ⟨3, at_, 0⟩) hs at_ n hn hin; exact rfl; exact rfl; exact ⟨rfl, rfl, rfl, rfl, rfl, trivial⟩; exact run_fresh _ _ _) | ((with_reducible apply RS.nilCheck); exact rfl; exact rfl; exact rfl) | ((with_reducible apply RS.move); exact rfl; exact rfl; exact rfl) | ((with_reducible apply RS.assign); exact rfl; exact rfl; exact rfl) | ((with_reducible apply RS.lenSl); exact rfl; exact rfl; exact rfl) | ((with_reducible apply RS.fieldAddr); exact rfl; exact rfl; exact rfl) | ((with_reducible apply RS.load1); exact rfl; exact rfl; exact rfl; exact rfl; exact rfl; exact rfl) | ((with_reducible apply RS.store); exact rfl; exact rfl; exact rfl; exact rfl; exact rfl; exact Nat.le_of_ble_eq_true rfl; exact rfl; exact rfl; exact rfl) | ((with_reducible apply RS.build); exact rfl; exact rfl; exact rfl; exact rfl) | ((with_reducible apply RS.nil); exact mixed; kernel_rfl) | ((with_reducible apply W.seq)) | ((with_reducible apply W.reg); kernel_rfl) | ((with_reducible apply W.block)) | ((with_reducible apply thenK_n)))
  refine W.loopP (X := Nat) (fun π y => [(0, .pointer (some ⟨π 0, 0, none⟩)), (3, .int .i64 v), (8, .slice (some ⟨π 3, 0 + (at_ - 65536).toNat * 1, none⟩) n (s.data.length - (at_ - 65536).toNat)), (28, .int .i64 n), (29, .int .i64 y)]) (fun _ => B) (fun π y => stL pb (leakS s ⟨3, at_, 0⟩) (storeV s.data (at_ - 65536).toNat v y) s.stack π) (fun π' y => EqUp π' π 5 ∧ y ≤ n) (fun y => n - y) [0, 1, 2, 3, 4, 6] 0 ⟨⟨rfl, rfl, rfl, rfl, rfl, trivial⟩, Nat.zero_le _⟩ (by (refine FitL.mk ?_ ?_ ?_ ?_ <;> (repeat' (first | exact trivial | exact rfl | (refine AllB.opt rfl rfl ?_) | apply And.intro)); done)) ?_
  rintro π' i ⟨hE, hI⟩
  dsimp only at hI ⊢
  by_cases hlt : i < n
  · have hset : setL (bytesC (storeV s.data (at_ - 65536).toNat v i)) (0 + (at_ - 65536).toNat * 1 + i * 1) [.int .u8 (storeByte v i)] = bytesC (storeV s.data (at_ - 65536).toNat v (i + 1)) := by
      rw [Nat.zero_add, Nat.mul_one, Nat.mul_one]; exact setL_bytes _ _ _
    have hfit : 0 + (at_ - 65536).toNat * 1 + i * 1 + 1 ≤ (bytesC (storeV s.data (at_ - 65536).toNat v i)).length := by
      unfold bytesC; rw [List.length_map, storeV_len]; omega
    repeat (first | ((with_reducible apply RS.shr); exact rfl; exact rfl; exact rfl; exact rfl; omega) | ((with_reducible apply RS.indexAddrS); exact rfl; exact rfl; exact rfl; exact rfl; exact rfl; omega) | ((with_reducible apply RS.store); exact rfl; exact rfl; exact rfl; exact rfl; exact rfl; exact hfit; exact rfl; exact rfl; exact hset) | ((with_reducible apply RS.move); exact rfl; exact rfl; exact rfl) | ((with_reducible apply RS.assign); exact rfl; exact rfl; exact rfl) | ((with_reducible apply RS.cmpT); exact rfl; exact rfl; exact rfl; exact rfl; (simp only [cmpP]; omega)) | ((with_reducible apply RS.add1); exact rfl; exact rfl; exact rfl; exact rfl; omega) | ((with_reducible apply RS.binFit); exact rfl; exact rfl; exact rfl; exact rfl; exact rfl; omega) | ((with_reducible apply RS.convI); exact rfl; exact rfl; exact rfl) | ((with_reducible apply RS.nil); exact mixed; kernel_rfl) | ((with_reducible apply W.seq)) | ((with_reducible apply W.reg); kernel_rfl) | ((with_reducible apply W.block)) | ((with_reducible apply W.skip)) | ((with_reducible apply W.condT); kernel_rfl; exact rfl) | ((with_reducible apply thenK_n)) | ((with_reducible apply blockK_n)))
    exact roundP_n (i + 1) [0, 1, 2, 3, 4, 5] rfl rfl ⟨hE, by omega⟩ (by omega) (by (refine FitL.mk ?_ ?_ ?_ ?_ <;> (repeat' (first | exact trivial | exact rfl | (refine AllB.opt rfl rfl ?_) | apply And.intro)); done))
  · have hni : i = n := by omega
    subst hni
    repeat (first | ((with_reducible apply RS.cmpF); exact rfl; exact rfl; exact rfl; exact rfl; (simp only [cmpN]; omega)) | ((with_reducible apply RS.nil); exact mixed; kernel_rfl) | ((with_reducible apply W.seq)) | ((with_reducible apply W.reg); kernel_rfl) | ((with_reducible apply W.exit)) | ((with_reducible apply W.condF); kernel_rfl; exact rfl) | ((with_reducible apply thenK_n)) | ((with_reducible apply thenK_e)) | ((with_reducible apply blockK_hit); exact rfl) | ((with_reducible apply roundP_e)))
    exact ⟨[], .nil, AtO.mk [0, 1, 2, 3, 4, 5] rfl rfl rfl hE ⟨congrArg (fun c => some (Blk.mk ⟨c⟩ 87)) (runC_data pb (leakS s ⟨3, at_, 0⟩) _ _ _ _ _ (storeV_len _ _ _ _)), rfl, rfl, rfl, rfl, rfl, trivial⟩ rfl⟩
set_option maxHeartbeats 2000000 in
set_option maxRecDepth 100000 in
theorem storeK_to (B : Hp) (pb : Nat) (hpb : pb < B.n) (s : RunS) (at_ : Int) (hs : (leakS s ⟨3, at_, 0⟩).ok) (n : Nat) (hn : 1 ≤ n ∧ n ≤ 8) (v : Int) (hno : ¬ inData s at_ n) (hin : inStack s at_ n) : TO Try.prog 70 B 5 1 (fun π => [.pointer (some ⟨π 0, 0, none⟩), .int .i64 at_, .int .i64 n, .int .i64 v]) (runL pb s) (fun π => .tuple #[]) (lkL pb { leakS s ⟨3, at_, 0⟩ with stack := storeV s.stack (at_ - (134217728 - (s.stack.length : Int))).toNat v n }) := by
  have hd : s.stack.length ≤ 1000000 := hs.stack
  have hlk : s.leaks.length + 1 ≤ 1000000000 := hs.leaks
  have hin' := hin
  obtain ⟨hi1, hi2⟩ := hin'
  refine TO.intro (fn := Try.f70) (c := (Try.f70.body.getD .skip)) Try.func70 (by kernel_rfl) Try.ntmps70 (fun π => by kernel_rfl) (lk_par _ hpb (by omega)) ⟨fun τ π hτ => by simp, fun π N hN hp => by simp⟩ fun π => ?_
  conv => arg 2; whnf
  repeat (first | ((with_reducible apply (RS.appendRow (w := leakW) (l0 := s.leaks) (q := ⟨3, at_, 0⟩))); exact rfl; exact rfl; exact rfl; exact rfl; exact rfl; exact rfl; exact rfl; exact rfl; exact rfl; exact rfl; exact rfl; exact Nat.le_of_ble_eq_true rfl; exact fun _ => rfl; exact rfl; omega; omega) | ((with_reducible apply RS.buildSlice); exact rfl; exact rfl; exact rfl; exact rfl; exact rfl; exact rfl; exact rfl; exact rfl) | ((with_reducible apply (RS.callO (vs := []) [0, 1, 6, 3, 4] 0)); exact rfl; exact rfl; exact bytesK_to B pb hpb (leakS s ⟨3, at_, 0⟩) hs at_ n hn hno hin; exact rfl; exact rfl; exact ⟨rfl, rfl, rfl, rfl, rfl, trivial⟩; exact run_fresh _ _ _) | ((with_reducible apply RS.nilCheck); exact rfl; exact rfl; exact rfl) | ((with_reducible apply RS.move); exact rfl; exact rfl; exact rfl) | ((with_reducible apply RS.assign); exact rfl; exact rfl; exact rfl) | ((with_reducible apply RS.lenSl); exact rfl; exact rfl; exact rfl) | ((with_reducible apply RS.fieldAddr); exact rfl; exact rfl; exact rfl) | ((with_reducible apply RS.load1); exact rfl; exact rfl; exact rfl; exact rfl; exact rfl; exact rfl) | ((with_reducible apply RS.store); exact rfl; exact rfl; exact rfl; exact rfl; exact rfl; exact Nat.le_of_ble_eq_true rfl; exact rfl; exact rfl; exact rfl) | ((with_reducible apply RS.build); exact rfl; exact rfl; exact rfl; exact rfl) | ((with_reducible apply RS.nil); exact mixed; kernel_rfl) | ((with_reducible apply W.seq)) | ((with_reducible apply W.reg); kernel_rfl) | ((with_reducible apply W.block)) | ((with_reducible apply thenK_n)))
  refine W.loopP (X := Nat) (fun π y => [(0, .pointer (some ⟨π 0, 0, none⟩)), (3, .int .i64 v), (8, .slice (some ⟨π 4, 0 + (at_ - (134217728 - (s.stack.length : Int))).toNat * 1, none⟩) n (s.stack.length - (at_ - (134217728 - (s.stack.length : Int))).toNat)), (28, .int .i64 n), (29, .int .i64 y)]) (fun _ => B) (fun π y => stL pb (leakS s ⟨3, at_, 0⟩) s.data (storeV s.stack (at_ - (134217728 - (s.stack.length : Int))).toNat v y) π) (fun π' y => EqUp π' π 5 ∧ y ≤ n) (fun y => n - y) [0, 1, 2, 3, 4, 6] 0 ⟨⟨rfl, rfl, rfl, rfl, rfl, trivial⟩, Nat.zero_le _⟩ (by (refine FitL.mk ?_ ?_ ?_ ?_ <;> (repeat' (first | exact trivial | exact rfl | (refine AllB.opt rfl rfl ?_) | apply And.intro)); done)) ?_
  rintro π' i ⟨hE, hI⟩
  dsimp only at hI ⊢
  by_cases hlt : i < n
  · have hset : setL (bytesC (storeV s.stack (at_ - (134217728 - (s.stack.length : Int))).toNat v i)) (0 + (at_ - (134217728 - (s.stack.length : Int))).toNat * 1 + i * 1) [.int .u8 (storeByte v i)] = bytesC (storeV s.stack (at_ - (134217728 - (s.stack.length : Int))).toNat v (i + 1)) := by
      rw [Nat.zero_add, Nat.mul_one, Nat.mul_one]; exact setL_bytes _ _ _
    have hfit : 0 + (at_ - (134217728 - (s.stack.length : Int))).toNat * 1 + i * 1 + 1 ≤ (bytesC (storeV s.stack (at_ - (134217728 - (s.stack.length : Int))).toNat v i)).length := by
      unfold bytesC; rw [List.length_map, storeV_len]; omega
    repeat (first | ((with_reducible apply RS.shr); exact rfl; exact rfl; exact rfl; exact rfl; omega) | ((with_reducible apply RS.indexAddrS); exact rfl; exact rfl; exact rfl; exact rfl; exact rfl; omega) | ((with_reducible apply RS.store); exact rfl; exact rfl; exact rfl; exact rfl; exact rfl; exact hfit; exact rfl; exact rfl; exact hset) | ((with_reducible apply RS.move); exact rfl; exact rfl; exact rfl) | ((with_reducible apply RS.assign); exact rfl; exact rfl; exact rfl) | ((with_reducible apply RS.cmpT); exact rfl; exact rfl; exact rfl; exact rfl; (simp only [cmpP]; omega)) | ((with_reducible apply RS.add1); exact rfl; exact rfl; exact rfl; exact rfl; omega) | ((with_reducible apply RS.binFit); exact rfl; exact rfl; exact rfl; exact rfl; exact rfl; omega) | ((with_reducible apply RS.convI); exact rfl; exact rfl; exact rfl) | ((with_reducible apply RS.nil); exact mixed; kernel_rfl) | ((with_reducible apply W.seq)) | ((with_reducible apply W.reg); kernel_rfl) | ((with_reducible apply W.block)) | ((with_reducible apply W.skip)) | ((with_reducible apply W.condT); kernel_rfl; exact rfl) | ((with_reducible apply thenK_n)) | ((with_reducible apply blockK_n)))
    exact roundP_n (i + 1) [0, 1, 2, 3, 4, 5] rfl rfl ⟨hE, by omega⟩ (by omega) (by (refine FitL.mk ?_ ?_ ?_ ?_ <;> (repeat' (first | exact trivial | exact rfl | (refine AllB.opt rfl rfl ?_) | apply And.intro)); done))
  · have hni : i = n := by omega
    subst hni
    repeat (first | ((with_reducible apply RS.cmpF); exact rfl; exact rfl; exact rfl; exact rfl; (simp only [cmpN]; omega)) | ((with_reducible apply RS.nil); exact mixed; kernel_rfl) | ((with_reducible apply W.seq)) | ((with_reducible apply W.reg); kernel_rfl) | ((with_reducible apply W.exit)) | ((with_reducible apply W.condF); kernel_rfl; exact rfl) | ((with_reducible apply thenK_n)) | ((with_reducible apply thenK_e)) | ((with_reducible apply blockK_hit); exact rfl) | ((with_reducible apply roundP_e)))
    exact ⟨[], .nil, AtO.mk [0, 1, 2, 3, 4, 5] rfl rfl rfl hE ⟨congrArg (fun c => some (Blk.mk ⟨c⟩ 87)) (runC_stack pb (leakS s ⟨3, at_, 0⟩) _ _ _ _ _ (storeV_len _ _ _ _)), rfl, rfl, rfl, rfl, rfl, trivial⟩ rfl⟩
set_option maxHeartbeats 2000000 in
set_option maxRecDepth 100000 in
theorem storeN_to (B : Hp) (pb : Nat) (hpb : pb < B.n) (s : RunS) (at_ : Int) (hs : (leakS s ⟨3, at_, 0⟩).ok) (hat : -9223372036854775808 ≤ at_ ∧ at_ ≤ 9223372036854775807) (n : Nat) (hn : 1 ≤ n ∧ n ≤ 8) (v : Int) (hno : ¬ inData s at_ n) (hno2 : ¬ inStack s at_ n) : TO Try.prog 70 B 5 1 (fun π => [.pointer (some ⟨π 0, 0, none⟩), .int .i64 at_, .int .i64 n, .int .i64 v]) (runL pb s) (fun π => .tuple #[]) (lkL pb (stopS (leakS s ⟨3, at_, 0⟩) 40)) := by
  have hlk : s.leaks.length + 1 ≤ 1000000000 := hs.leaks
  refine TO.intro (fn := Try.f70) (c := (Try.f70.body.getD .skip)) Try.func70 (by kernel_rfl) Try.ntmps70 (fun π => by kernel_rfl) (lk_par _ hpb (by omega)) ⟨fun τ π hτ => by simp, fun π N hN hp => by simp⟩ fun π => ?_
  conv => arg 2; whnf
  repeat (first | ((with_reducible apply (RS.appendRow (w := leakW) (l0 := s.leaks) (q := ⟨3, at_, 0⟩))); exact rfl; exact rfl; exact rfl; exact rfl; exact rfl; exact rfl; exact rfl; exact rfl; exact rfl; exact rfl; exact rfl; exact Nat.le_of_ble_eq_true rfl; exact fun _ => rfl; exact rfl; omega; omega) | ((with_reducible apply RS.buildSlice); exact rfl; exact rfl; exact rfl; exact rfl; exact rfl; exact rfl; exact rfl; exact rfl) | ((with_reducible apply (RS.callO (vs := []) [0, 1, 6, 3, 4] 0)); exact rfl; exact rfl; exact bytesN_to B pb hpb (leakS s ⟨3, at_, 0⟩) hs at_ hat n hn hno hno2; exact rfl; exact rfl; exact ⟨rfl, rfl, rfl, rfl, rfl, trivial⟩; exact stop_fresh _ _ _ _) | ((with_reducible apply RS.nilCheck); exact rfl; exact rfl; exact rfl) | ((with_reducible apply RS.move); exact rfl; exact rfl; exact rfl) | ((with_reducible apply RS.assign); exact rfl; exact rfl; exact rfl) | ((with_reducible apply RS.lenSl); exact rfl; exact rfl; exact rfl) | ((with_reducible apply RS.fieldAddr); exact rfl; exact rfl; exact rfl) | ((with_reducible apply RS.load1); exact rfl; exact rfl; exact rfl; exact rfl; exact rfl; exact rfl) | ((with_reducible apply RS.store); exact rfl; exact rfl; exact rfl; exact rfl; exact rfl; exact Nat.le_of_ble_eq_true rfl; exact rfl; exact rfl; exact rfl) | ((with_reducible apply RS.build); exact rfl; exact rfl; exact rfl; exact rfl) | ((with_reducible apply RS.nil); exact mixed; kernel_rfl) | ((with_reducible apply W.seq)) | ((with_reducible apply W.reg); kernel_rfl) | ((with_reducible apply W.block)) | ((with_reducible apply thenK_n)))
  refine W.loopP (X := Unit) (fun π y => [(0, .pointer (some ⟨π 0, 0, none⟩)), (8, .slice none 0 0), (28, .int .i64 (0 : Nat)), (29, .int .i64 0)]) (fun _ => B) (fun π _ => lkL pb (stopS (leakS s ⟨3, at_, 0⟩) 40) π) (fun π' y => EqUp π' π 5) (fun y => 0) [0, 1, 2, 3, 4, 6] () ⟨rfl, rfl, rfl, rfl, rfl, trivial⟩ (by (refine FitL.mk ?_ ?_ ?_ ?_ <;> (repeat' (first | exact trivial | exact rfl | (refine AllB.opt rfl rfl ?_) | apply And.intro)); done)) ?_
  intro π' _ hE
  repeat (first | ((with_reducible apply RS.cmpF); exact rfl; exact rfl; exact rfl; exact rfl; (simp only [cmpN]; omega)) | ((with_reducible apply RS.nil); exact mixed; kernel_rfl) | ((with_reducible apply W.seq)) | ((with_reducible apply W.reg); kernel_rfl) | ((with_reducible apply W.exit)) | ((with_reducible apply W.condF); kernel_rfl; exact rfl) | ((with_reducible apply thenK_n)) | ((with_reducible apply thenK_e)) | ((with_reducible apply blockK_hit); exact rfl) | ((with_reducible apply roundP_e)))
  exact ⟨[], .nil, AtO.mk [0, 1, 2, 3, 4, 5] rfl rfl rfl hE (by (repeat' (first | exact trivial | exact rfl | apply And.intro)); done) rfl⟩
end Go.Proofs.Ytjhloakacicdiaa
namespace Go.Proofs.Ytjhloakacicdiaa
open Go.AH
attribute [local irreducible] W RS
set_option maxRecDepth 100000 in
theorem Short_tf (A1 : Option Addr) (n1 c1 : Nat) (A2 : Option Addr) (n2 c2 : Nat) (h : Hp) : TF Try.prog 15 ⟨[.agg ⟨[.slice A1 n1 c1, .slice A2 n2 c2]⟩]⟩ h (.bool (decide (n1 < 3000) && decide (n2 < 3000))) h := by
  refine TF.dom fun hd => ?_
  refine TF.still (fn := Try.f15) (c := (Try.f15.body.getD .skip)) Try.func15 (by kernel_rfl) Try.ntmps15 (by kernel_rfl) (by simp) ?_
  conv => arg 2; whnf
  repeat (first | ((with_reducible apply RS.move); exact rfl; exact rfl; exact rfl) | ((with_reducible apply RS.assign); exact rfl; exact rfl; exact rfl) | ((with_reducible apply RS.cmpC); exact rfl; exact rfl; exact rfl; exact rfl; exact rfl) | ((with_reducible apply RS.lenSl); exact rfl; exact rfl; exact rfl) | ((with_reducible apply RS.fieldAddr); exact rfl; exact rfl; exact rfl) | ((with_reducible apply RS.load1); exact rfl; exact rfl; exact rfl; exact rfl; exact rfl; exact rfl) | ((with_reducible apply RS.box); exact rfl; exact rfl; exact rfl) | ((with_reducible apply RS.nil); exact mixed; kernel_rfl) | ((with_reducible apply W.seq)) | ((with_reducible apply W.reg); kernel_rfl) | ((with_reducible apply thenK_n)))
  repeat' ((first | (((with_reducible apply RS.splitD); exact rfl; exact rfl) <;> intro _) | ((((with_reducible apply RS.splitG); exact rfl; exact rfl) <;> intro _) <;> (fail_if_success (exact absurd ‹true = false› (by decide))) <;> (fail_if_success (exact absurd ‹false = true› (by decide)))) | (((with_reducible apply W.condD); exact rfl) <;> intro _) | ((((with_reducible apply W.cond); exact rfl) <;> intro _) <;> (fail_if_success (exact absurd ‹true = false› (by decide))) <;> (fail_if_success (exact absurd ‹false = true› (by decide))))) <;> repeat (first | ((with_reducible apply RS.assign); exact rfl; exact rfl; exact rfl) | ((with_reducible apply RS.pickT); exact rfl; exact rfl; exact rfl; exact rfl) | ((with_reducible apply RS.pickF); exact rfl; exact rfl; exact rfl; exact rfl) | ((with_reducible apply RS.cmpC); exact rfl; exact rfl; exact rfl; exact rfl; exact rfl) | ((with_reducible apply RS.lenSl); exact rfl; exact rfl; exact rfl) | ((with_reducible apply RS.fieldAddr); exact rfl; exact rfl; exact rfl) | ((with_reducible apply RS.load1); exact rfl; exact rfl; exact rfl; exact rfl; exact rfl; exact rfl) | ((with_reducible apply RS.skip); exact rfl; exact rfl) | ((with_reducible apply RS.nil); exact mixed; kernel_rfl) | ((with_reducible apply W.ret)) | ((with_reducible apply thenK_n))))
  · refine endsK_ret _ (.cons (.tmp rfl) .nil) ⟨rfl, ?_⟩
    rw [decide_eq_true (by omega : n1 < 3000), Bool.true_and]
    show Value.bool (decide ((n2 : Int) < 3000)) = _
    congr 1; exact decide_eq_decide.2 (by omega)
  · refine endsK_ret _ (.cons (.tmp rfl) .nil) ⟨rfl, ?_⟩
    rw [decide_eq_false (by omega : ¬ n1 < 3000)]; rfl
set_option maxRecDepth 100000 in
theorem Nums_tf (a b : List Int) (A1 : Option Addr) (c1 : Nat) (A2 : Option Addr) (c2 : Nat) (ha : a.length ≤ 281474976710656) (hb : b.length ≤ 281474976710656) (h : Hp) (s1 : SlAt h A1 1 a intR) (s2 : SlAt h A2 1 b intR) : TF Try.prog 17 ⟨[.slice A1 a.length c1, .slice A2 b.length c2]⟩ h (.bool (decide (a = b))) h := by
  refine TF.dom fun hd => ?_
  refine TF.still (fn := Try.f17) (c := (Try.f17.body.getD .skip)) Try.func17 (by kernel_rfl) Try.ntmps17 (by kernel_rfl) (by simp) ?_
  conv => arg 2; whnf
  repeat (first | ((with_reducible apply RS.move); exact rfl; exact rfl; exact rfl) | ((with_reducible apply RS.assign); exact rfl; exact rfl; exact rfl) | ((with_reducible apply RS.cmpNat); exact rfl; exact rfl; exact rfl; exact rfl; exact rfl) | ((with_reducible apply RS.lenSl); exact rfl; exact rfl; exact rfl) | ((with_reducible apply RS.nil); exact mixed; kernel_rfl) | ((with_reducible apply W.seq)) | ((with_reducible apply W.reg); kernel_rfl) | ((with_reducible apply thenK_n)))
  repeat' ((first | (((with_reducible apply RS.splitD); exact rfl; exact rfl) <;> intro _) | ((((with_reducible apply RS.splitG); exact rfl; exact rfl) <;> intro _) <;> (fail_if_success (exact absurd ‹true = false› (by decide))) <;> (fail_if_success (exact absurd ‹false = true› (by decide)))) | (((with_reducible apply W.condD); exact rfl) <;> intro _) | ((((with_reducible apply W.cond); exact rfl) <;> intro _) <;> (fail_if_success (exact absurd ‹true = false› (by decide))) <;> (fail_if_success (exact absurd ‹false = true› (by decide))))) <;> repeat (first | ((with_reducible apply RS.move); exact rfl; exact rfl; exact rfl) | ((with_reducible apply RS.assign); exact rfl; exact rfl; exact rfl) | ((with_reducible apply RS.lenSl); exact rfl; exact rfl; exact rfl) | ((with_reducible apply RS.nil); exact mixed; kernel_rfl) | ((with_reducible apply W.seq)) | ((with_reducible apply W.reg); kernel_rfl) | ((with_reducible apply W.block)) | ((with_reducible apply W.ret)) | ((with_reducible apply W.skip)) | ((with_reducible apply thenK_n)) | ((with_reducible apply thenK_r))))
  · refine endsK_ret _ (.cons (.tmp rfl) .nil) ⟨rfl, ?_⟩
    have hne : ¬ a.length = b.length := by simpa using ‹(!decide (a.length = b.length)) = true›
    rw [decide_eq_false (fun e => hne (by rw [e]))]; rfl
  · have heq : a.length = b.length := by simpa using ‹(!decide (a.length = b.length)) = false›
    refine W.loop (X := Nat) (fun π i => [(0, .slice A1 a.length c1), (1, .slice A2 b.length c2), (12, .int .i64 a.length), (13, .int .i64 i)]) (fun _ => h) (fun π i => []) (fun i => i ≤ a.length ∧ decide (a = b) = decide (a.drop i = b.drop i)) (fun i => a.length - i) [] 0 ⟨Nat.zero_le _, rfl⟩ (by (refine FitL.mk ?_ ?_ ?_ ?_ <;> (repeat' (first | exact trivial | exact rfl | apply And.intro)); done)) ?_
    intro π i hI
    obtain ⟨hi, hI⟩ := hI
    dsimp only at hi hI ⊢
    by_cases hlt : i < a.length
    · obtain ⟨x, hx⟩ : ∃ g, a[i]? = some g := ⟨_, List.getElem?_eq_getElem hlt⟩
      obtain ⟨y, hy⟩ : ∃ g, b[i]? = some g := ⟨_, List.getElem?_eq_getElem (by omega)⟩
      obtain ⟨xb, xo, xcs, xe, rfl, hX, hXl, hXv⟩ := s1.get i x hx
      obtain ⟨yb, yo, ycs, ye, rfl, hY, hYl, hYv⟩ := s2.get i y hy
      have hXn := hd _ _ hX
      have hYn := hd _ _ hY
      have hXc := take_nth (j := 0) hXv rfl
      have hYc := take_nth (j := 0) hYv rfl
      rw [drop_get hx, drop_get hy] at hI
      repeat (first | ((with_reducible apply RS.indexAddrS); exact rfl; exact rfl; exact rfl; exact rfl; exact rfl; omega) | ((with_reducible apply RS.load1B); exact rfl; exact rfl; exact rfl; exact hX; exact hXn; exact hXc) | ((with_reducible apply RS.load1B); exact rfl; exact rfl; exact rfl; exact hY; exact hYn; exact hYc) | ((with_reducible apply RS.move); exact rfl; exact rfl; exact rfl) | ((with_reducible apply RS.assign); exact rfl; exact rfl; exact rfl) | ((with_reducible apply RS.cmpT); exact rfl; exact rfl; exact rfl; exact rfl; (simp only [cmpP]; omega)) | ((with_reducible apply RS.bin); exact rfl; exact rfl; exact rfl; exact rfl; exact rfl) | ((with_reducible apply RS.nil); exact mixed; kernel_rfl) | ((with_reducible apply W.seq)) | ((with_reducible apply W.reg); kernel_rfl) | ((with_reducible apply W.block)) | ((with_reducible apply W.skip)) | ((with_reducible apply W.condT); kernel_rfl; exact rfl) | ((with_reducible apply thenK_n)))
      repeat' ((first | (((with_reducible apply RS.splitD); exact rfl; exact rfl) <;> intro _) | ((((with_reducible apply RS.splitG); exact rfl; exact rfl) <;> intro _) <;> (fail_if_success (exact absurd ‹true = false› (by decide))) <;> (fail_if_success (exact absurd ‹false = true› (by decide)))) | (((with_reducible apply W.condD); exact rfl) <;> intro _) | ((((with_reducible apply W.cond); exact rfl) <;> intro _) <;> (fail_if_success (exact absurd ‹true = false› (by decide))) <;> (fail_if_success (exact absurd ‹false = true› (by decide))))) <;> repeat (first | ((with_reducible apply RS.move); exact rfl; exact rfl; exact rfl) | ((with_reducible apply RS.assign); exact rfl; exact rfl; exact rfl) | ((with_reducible apply RS.add1); exact rfl; exact rfl; exact rfl; exact rfl; omega) | ((with_reducible apply RS.nil); exact mixed; kernel_rfl) | ((with_reducible apply W.seq)) | ((with_reducible apply W.reg); kernel_rfl) | ((with_reducible apply W.ret)) | ((with_reducible apply W.skip)) | ((with_reducible apply thenK_n)) | ((with_reducible apply thenK_r)) | ((with_reducible apply blockK_n)) | ((with_reducible apply blockK_r)) | ((with_reducible apply roundK_r))))
      · refine endsK_ret _ (.cons (.tmp rfl) .nil) ⟨rfl, ?_⟩
        have hne : ¬ x = y := by simpa using ‹(x != y) = true›
        rw [hI, decide_eq_false (fun e => hne (by injection e))]; rfl
      · have hxy : x = y := by simpa using ‹(x != y) = false›
        subst hxy
        exact roundK_n (i + 1) [] rfl rfl ⟨by omega, by rw [hI]; exact decide_eq_decide.2 (by simp)⟩ (by omega) (by (refine FitL.mk ?_ ?_ ?_ ?_ <;> (repeat' (first | exact trivial | exact rfl | apply And.intro)); done))
    · repeat (first | ((with_reducible apply RS.assign); exact rfl; exact rfl; exact rfl) | ((with_reducible apply RS.cmpF); exact rfl; exact rfl; exact rfl; exact rfl; (simp only [cmpN]; omega)) | ((with_reducible apply RS.nil); exact mixed; kernel_rfl) | ((with_reducible apply W.seq)) | ((with_reducible apply W.reg); kernel_rfl) | ((with_reducible apply W.exit)) | ((with_reducible apply W.ret)) | ((with_reducible apply W.condF); kernel_rfl; exact rfl) | ((with_reducible apply thenK_n)) | ((with_reducible apply thenK_e)) | ((with_reducible apply blockK_hit); exact rfl) | ((with_reducible apply roundK_e)))
      rw [List.drop_eq_nil_of_le (by omega), List.drop_eq_nil_of_le (by omega)] at hI
      exact endsK_ret _ (.cons (.tmp rfl) .nil) ⟨rfl, by rw [hI]; rfl⟩
end Go.Proofs.Ytjhloakacicdiaa
namespace Go.Proofs.Ytjhloakacicdiaa
open Go.AH
attribute [local irreducible] W RS
instance : TyP Try.prog 90 [.int .i64, .int .i64, .int .i64] := ⟨by kernel_rfl⟩
deriving instance DecidableEq for LeakS
def leakR (cs : List Value) (x : LeakS) : Prop := cs = leakW x
theorem leak_eq (x y : LeakS) : eqVs [.int .i64, .int .i64, .int .i64] (leakW x) (leakW y) = some (decide (x = y)) := by
  have : eqVs [.int .i64, .int .i64, .int .i64] (leakW x) (leakW y) = some (decide (x.kind = y.kind) && (decide (x.a = y.a) && (decide (x.b = y.b) && true))) := rfl
  rw [this]
  congr 1
  cases x; cases y
  simp [LeakS.mk.injEq, Bool.decide_and]
set_option maxRecDepth 100000 in
theorem Leaks_tf (a b : List LeakS) (A1 : Option Addr) (c1 : Nat) (A2 : Option Addr) (c2 : Nat) (ha : a.length ≤ 281474976710656) (hb : b.length ≤ 281474976710656) (h : Hp) (s1 : SlAt h A1 3 a leakR) (s2 : SlAt h A2 3 b leakR) : TF Try.prog 18 ⟨[.slice A1 a.length c1, .slice A2 b.length c2]⟩ h (.bool (decide (a = b))) h := by
  refine TF.dom fun hd => ?_
  refine TF.still (fn := Try.f18) (c := (Try.f18.body.getD .skip)) Try.func18 (by kernel_rfl) Try.ntmps18 (by kernel_rfl) (by simp) ?_
  conv => arg 2; whnf
  repeat (first | ((with_reducible apply RS.move); exact rfl; exact rfl; exact rfl) | ((with_reducible apply RS.assign); exact rfl; exact rfl; exact rfl) | ((with_reducible apply RS.cmpNat); exact rfl; exact rfl; exact rfl; exact rfl; exact rfl) | ((with_reducible apply RS.lenSl); exact rfl; exact rfl; exact rfl) | ((with_reducible apply RS.nil); exact mixed; kernel_rfl) | ((with_reducible apply W.seq)) | ((with_reducible apply W.reg); kernel_rfl) | ((with_reducible apply thenK_n)))
  repeat' ((first | (((with_reducible apply RS.splitD); exact rfl; exact rfl) <;> intro _) | ((((with_reducible apply RS.splitG); exact rfl; exact rfl) <;> intro _) <;> (fail_if_success (exact absurd ‹true = false› (by decide))) <;> (fail_if_success (exact absurd ‹false = true› (by decide)))) | (((with_reducible apply W.condD); exact rfl) <;> intro _) | ((((with_reducible apply W.cond); exact rfl) <;> intro _) <;> (fail_if_success (exact absurd ‹true = false› (by decide))) <;> (fail_if_success (exact absurd ‹false = true› (by decide))))) <;> repeat (first | ((with_reducible apply RS.move); exact rfl; exact rfl; exact rfl) | ((with_reducible apply RS.assign); exact rfl; exact rfl; exact rfl) | ((with_reducible apply RS.lenSl); exact rfl; exact rfl; exact rfl) | ((with_reducible apply RS.nil); exact mixed; kernel_rfl) | ((with_reducible apply W.seq)) | ((with_reducible apply W.reg); kernel_rfl) | ((with_reducible apply W.block)) | ((with_reducible apply W.ret)) | ((with_reducible apply W.skip)) | ((with_reducible apply thenK_n)) | ((with_reducible apply thenK_r))))
  · refine endsK_ret _ (.cons (.tmp rfl) .nil) ⟨rfl, ?_⟩
    have hne : ¬ a.length = b.length := by simpa using ‹(!decide (a.length = b.length)) = true›
    rw [decide_eq_false (fun e => hne (by rw [e]))]; rfl
  · have heq : a.length = b.length := by simpa using ‹(!decide (a.length = b.length)) = false›
    refine W.loop (X := Nat) (fun π i => [(0, .slice A1 a.length c1), (1, .slice A2 b.length c2), (12, .int .i64 a.length), (13, .int .i64 i)]) (fun _ => h) (fun π i => []) (fun i => i ≤ a.length ∧ decide (a = b) = decide (a.drop i = b.drop i)) (fun i => a.length - i) [] 0 ⟨Nat.zero_le _, rfl⟩ (by (refine FitL.mk ?_ ?_ ?_ ?_ <;> (repeat' (first | exact trivial | exact rfl | apply And.intro)); done)) ?_
    intro π i hI
    obtain ⟨hi, hI⟩ := hI
    dsimp only at hi hI ⊢
    by_cases hlt : i < a.length
    · obtain ⟨x, hx⟩ : ∃ g, a[i]? = some g := ⟨_, List.getElem?_eq_getElem hlt⟩
      obtain ⟨y, hy⟩ : ∃ g, b[i]? = some g := ⟨_, List.getElem?_eq_getElem (by omega)⟩
      obtain ⟨xb, xo, xcs, xe, rfl, hX, hXl, hXv⟩ := s1.get i x hx
      obtain ⟨yb, yo, ycs, ye, rfl, hY, hYl, hYv⟩ := s2.get i y hy
      have hXn := hd _ _ hX
      have hYn := hd _ _ hY
      rw [drop_get hx, drop_get hy] at hI
      repeat (first | ((with_reducible apply RS.neqAgg); exact rfl; exact rfl; exact rfl; exact rfl; exact leak_eq _ _) | ((with_reducible apply RS.indexAddrS); exact rfl; exact rfl; exact rfl; exact rfl; exact rfl; omega) | ((with_reducible apply RS.loadNB); exact rfl; exact rfl; exact rfl; exact hX; exact hXn; exact hXl; exact hXv) | ((with_reducible apply RS.loadNB); exact rfl; exact rfl; exact rfl; exact hY; exact hYn; exact hYl; exact hYv) | ((with_reducible apply RS.move); exact rfl; exact rfl; exact rfl) | ((with_reducible apply RS.assign); exact rfl; exact rfl; exact rfl) | ((with_reducible apply RS.cmpT); exact rfl; exact rfl; exact rfl; exact rfl; (simp only [cmpP]; omega)) | ((with_reducible apply RS.nil); exact mixed; kernel_rfl) | ((with_reducible apply W.seq)) | ((with_reducible apply W.reg); kernel_rfl) | ((with_reducible apply W.block)) | ((with_reducible apply W.skip)) | ((with_reducible apply W.condT); kernel_rfl; exact rfl) | ((with_reducible apply thenK_n)))
      repeat' ((first | (((with_reducible apply RS.splitD); exact rfl; exact rfl) <;> intro _) | ((((with_reducible apply RS.splitG); exact rfl; exact rfl) <;> intro _) <;> (fail_if_success (exact absurd ‹true = false› (by decide))) <;> (fail_if_success (exact absurd ‹false = true› (by decide)))) | (((with_reducible apply W.condD); exact rfl) <;> intro _) | ((((with_reducible apply W.cond); exact rfl) <;> intro _) <;> (fail_if_success (exact absurd ‹true = false› (by decide))) <;> (fail_if_success (exact absurd ‹false = true› (by decide))))) <;> repeat (first | ((with_reducible apply RS.move); exact rfl; exact rfl; exact rfl) | ((with_reducible apply RS.assign); exact rfl; exact rfl; exact rfl) | ((with_reducible apply RS.add1); exact rfl; exact rfl; exact rfl; exact rfl; omega) | ((with_reducible apply RS.nil); exact mixed; kernel_rfl) | ((with_reducible apply W.seq)) | ((with_reducible apply W.reg); kernel_rfl) | ((with_reducible apply W.ret)) | ((with_reducible apply W.skip)) | ((with_reducible apply thenK_n)) | ((with_reducible apply thenK_r)) | ((with_reducible apply blockK_n)) | ((with_reducible apply blockK_r)) | ((with_reducible apply roundK_r))))
      · refine endsK_ret _ (.cons (.tmp rfl) .nil) ⟨rfl, ?_⟩
        have hne : ¬ x = y := by simpa using ‹(!decide (x = y)) = true›
        rw [hI, decide_eq_false (fun e => hne (by injection e))]; rfl
      · have hxy : x = y := by simpa using ‹(!decide (x = y)) = false›
        subst hxy
        exact roundK_n (i + 1) [] rfl rfl ⟨by omega, by rw [hI]; exact decide_eq_decide.2 (by simp)⟩ (by omega) (by (refine FitL.mk ?_ ?_ ?_ ?_ <;> (repeat' (first | exact trivial | exact rfl | apply And.intro)); done))
    · repeat (first | ((with_reducible apply RS.assign); exact rfl; exact rfl; exact rfl) | ((with_reducible apply RS.cmpF); exact rfl; exact rfl; exact rfl; exact rfl; (simp only [cmpN]; omega)) | ((with_reducible apply RS.nil); exact mixed; kernel_rfl) | ((with_reducible apply W.seq)) | ((with_reducible apply W.reg); kernel_rfl) | ((with_reducible apply W.exit)) | ((with_reducible apply W.ret)) | ((with_reducible apply W.condF); kernel_rfl; exact rfl) | ((with_reducible apply thenK_n)) | ((with_reducible apply thenK_e)) | ((with_reducible apply blockK_hit); exact rfl) | ((with_reducible apply roundK_e)))
      rw [List.drop_eq_nil_of_le (by omega), List.drop_eq_nil_of_le (by omega)] at hI
      exact endsK_ret _ (.cons (.tmp rfl) .nil) ⟨rfl, by rw [hI]; rfl⟩
end Go.Proofs.Ytjhloakacicdiaa
namespace Go.Proofs.Ytjhloakacicdiaa
open Go.AH
attribute [local irreducible] W RS
def frL (pb fb fo : Nat) (s : RunS) (regs at_ : List Int) (π : Nat → Nat) : List (Nat × Option Blk) := [(0, some ⟨⟨runC pb s (π 1) (π 2) (π 3) (π 4)⟩, 87⟩), (1, rowBk intW 2 s.out), (2, rowBk leakW 90 s.leaks), (3, some ⟨⟨bytesC s.data⟩, 5⟩), (4, some ⟨⟨bytesC s.stack⟩, 5⟩), (5, some ⟨⟨[.pointer (some ⟨fb, fo, none⟩), .slice (some ⟨π 6, 0, none⟩) regs.length regs.length, rowVl 1 (π 7) at_]⟩, 100⟩), (6, some ⟨⟨intsC regs⟩, 2⟩), (7, rowBk intW 2 at_)]
theorem fr_par {n K : Nat} {pb fb fo : Nat} (s : RunS) (regs at_ : List Int) (hp : pb < n) (hf : fb < n) (hK : 8 ≤ K) : ParL n K (frL pb fb fo s regs at_) 8 := by
  refine ⟨ParB_row (fun a v hv => ?_) at_, ParB_free fun v hv => ?_, ⟨fun τ π hτ => ?_, fun π N b hN hpi hb u hu => ?_⟩, run_par s hp (by omega)⟩
  · simp only [intW, List.mem_cons, List.not_mem_nil, or_false] at hv
    subst hv; simp
  · obtain ⟨x, _, rfl⟩ := List.mem_map.1 hv; simp
  · show some _ = some _
    congr 1
    unfold subB
    congr 1
    apply Array.ext'
    simp [sub_row, hτ fb hf]
  · have hb : some _ = some b := hb
    injection hb with hb
    subst hb
    have h1 := hpi 6 (by omega)
    have h2 := hpi 7 (by omega)
    have hu : u ∈ [Value.pointer (some ⟨fb, fo, none⟩), .slice (some ⟨π 6, 0, none⟩) regs.length regs.length, rowVl 1 (π 7) at_] := by simpa using hu
    simp only [List.mem_cons, List.not_mem_nil, or_false] at hu
    rcases hu with rfl | rfl | rfl
    all_goals first | exact bnd_row (by assumption) | (simp; omega)
theorem step_fresh (pb : Nat) (s : RunS) (π : Nat → Nat) : FreshL (runL pb s π) (runL pb (stepS s) π) 5 := by
  have h1 : (stepS s).out = s.out := by unfold stepS; split <;> (try split) <;> rfl
  have h2 : (stepS s).leaks = s.leaks := by unfold stepS; split <;> (try split) <;> rfl
  refine ⟨.inr ⟨_, rfl⟩, .inr ⟨_, rfl⟩, ?_, ?_, .inr ⟨_, rfl⟩, trivial⟩
  · show rowBk leakW 90 (stepS s).leaks = none ∨ ∃ b, rowBk leakW 90 s.leaks = some b
    rw [h2]; exact row_fresh _ _ _
  · show rowBk intW 2 (stepS s).out = none ∨ ∃ b, rowBk intW 2 s.out = some b
    rw [h1]; exact row_fresh _ _ _
theorem takeV_sub {off w j n : Nat} {cs vs : List Value} (h : takeV off w cs = vs) (hj : j + n ≤ w) : takeV (off + j) n cs = (vs.drop j).take n := by
  subst h
  rw [takeV_eq, takeV_eq, List.drop_take, List.drop_drop, List.take_take, Nat.min_eq_left (by omega)]
end Go.Proofs.Ytjhloakacicdiaa
namespace Go.Proofs.Ytjhloakacicdiaa
open Go.AH
attribute [local irreducible] W RS
def setReg (regs : List Int) (d v : Int) : List Int := if d ≥ 0 then regs.set d.toNat v else regs
theorem fr_set {p : Option Addr} {a : Option Addr} {z : Value} {n m : Nat} (h : n = m) : (some ⟨⟨[.pointer p, .slice a n n, z]⟩, 100⟩ : Option Blk) = some ⟨⟨[.pointer p, .slice a m m, z]⟩, 100⟩ := by rw [h]
theorem setL_ints (d : List Int) (k : Nat) (b : Int) : setL (intsC d) (0 + k * 1) [.int .i64 b] = intsC (d.set k b) := by
  rw [Nat.zero_add, Nat.mul_one, setL_cons, setL_nil]; unfold intsC; rw [List.map_set]
set_option maxHeartbeats 2000000 in
set_option maxRecDepth 100000 in
theorem insA_te (B : Hp) (pb fb fo : Nat) (hpb : pb < B.n) (hfb : fb < B.n) (s : RunS) (hst : 0 ≤ s.steps ∧ s.steps ≤ 1000000000) (regs at_ : List Int) (hrl : regs.length ≤ 1000000000) (x : InsS) (xb xo : Nat) (xcs : List Value) (xe : TypeId) (A : Option Addr) (c : Nat) (hX : B.m xb = some ⟨⟨xcs⟩, xe⟩) (hXn : xb < B.n) (hXl : xo + 12 ≤ xcs.length) (hXv : takeV xo 12 xcs = insC x A c) (hop : x.op = 1 ∨ x.op = 2) (hdst : x.dst < regs.length) :
    TE Try.prog 60 B 8 [0, 3, 4, 5, 6] (fun π => [.pointer (some ⟨π 0, 0, none⟩), .pointer (some ⟨π 5, 0, none⟩), .pointer (some ⟨xb, xo, none⟩)]) (frL pb fb fo s regs at_) (.bool ((stepS s).fin == 0)) (frL pb fb fo (stepS s) (if (stepS s).fin = 0 then setReg regs x.dst (argS regs x.a) else regs) at_) := by
  refine TE.intro (fn := Try.f60) (c := (Try.f60.body.getD .skip)) Try.func60 (by kernel_rfl) Try.ntmps60 (fun π => by kernel_rfl) (fun π => ⟨⟨_, rfl⟩, ⟨_, rfl⟩, ⟨_, rfl⟩, ⟨_, rfl⟩, ⟨_, rfl⟩, trivial⟩) (fr_par _ _ _ hpb hfb (by omega)) (by simp) fun π => ?_
  conv => arg 2; whnf
  repeat (first | ((with_reducible apply (RS.callO (vs := []) [0, 1, 2, 3, 4] 0)); exact rfl; exact rfl; exact step_to B pb hpb s hst; exact rfl; exact rfl; exact ⟨rfl, rfl, rfl, rfl, rfl, trivial⟩; exact step_fresh _ _ _) | ((with_reducible apply RS.move); exact rfl; exact rfl; exact rfl) | ((with_reducible apply RS.assign); exact rfl; exact rfl; exact rfl) | ((with_reducible apply RS.not); exact rfl; exact rfl; exact rfl) | ((with_reducible apply RS.nil); exact mixed; kernel_rfl) | ((with_reducible apply W.seq)) | ((with_reducible apply W.reg); kernel_rfl) | ((with_reducible apply thenK_n)))
  repeat' ((first | (((with_reducible apply RS.splitD); exact rfl; exact rfl) <;> intro _) | ((((with_reducible apply RS.splitG); exact rfl; exact rfl) <;> intro _) <;> (fail_if_success (exact absurd ‹true = false› (by decide))) <;> (fail_if_success (exact absurd ‹false = true› (by decide)))) | (((with_reducible apply W.condD); exact rfl) <;> intro _) | ((((with_reducible apply W.cond); exact rfl) <;> intro _) <;> (fail_if_success (exact absurd ‹true = false› (by decide))) <;> (fail_if_success (exact absurd ‹false = true› (by decide))))) <;> repeat (first | ((with_reducible apply RS.indexAddrS); exact rfl; exact rfl; exact rfl; exact rfl; exact (Int.toNat_of_nonneg (by omega)).symm; omega) | ((with_reducible apply RS.store); exact rfl; exact rfl; exact rfl; exact rfl; exact rfl; (rw [show (intsC regs).length = regs.length from List.length_map ..]; omega); exact rfl; exact rfl; exact setL_ints _ _ _) | ((with_reducible apply RS.callR false [0]); exact rfl; exact rfl; exact rfl; exact fun H hH => ok_tf (stepS s).fin _ _ H (hH.l 0 rfl (by simp)) rfl; exact Nm_free (by simp)) | ((with_reducible apply RS.load1B); exact rfl; exact rfl; exact rfl; exact hX; exact hXn; (first | exact take_nth (j := 0) hXv rfl | exact take_nth (j := 1) hXv rfl | exact take_nth (j := 4) hXv rfl | exact take_nth (j := 7) hXv rfl | exact take_nth (j := 10) hXv rfl)) | ((with_reducible apply RS.loadNB); exact rfl; exact rfl; exact rfl; exact hX; exact hXn; omega; (first | exact takeV_sub (j := 2) (n := 2) hXv (by omega) | exact takeV_sub (j := 4) (n := 2) hXv (by omega))) | ((with_reducible apply RS.callR false [5, 6]); exact rfl; exact rfl; exact rfl; exact fun H hH => arg_tf x.a regs _ _ _ H hrl (hH.l 5 rfl (by simp)) rfl (hH.l 6 rfl (by simp)); exact Nm_free (by simp)) | ((with_reducible apply RS.callR false [5, 6]); exact rfl; exact rfl; exact rfl; exact fun H hH => arg_tf x.b regs _ _ _ H hrl (hH.l 5 rfl (by simp)) rfl (hH.l 6 rfl (by simp)); exact Nm_free (by simp)) | ((with_reducible apply RS.nilCheck); exact rfl; exact rfl; exact rfl) | ((with_reducible apply RS.move); exact rfl; exact rfl; exact rfl) | ((with_reducible apply RS.assign); exact rfl; exact rfl; exact rfl) | ((with_reducible apply RS.pickT); exact rfl; exact rfl; exact rfl; exact rfl) | ((with_reducible apply RS.pickF); exact rfl; exact rfl; exact rfl; exact rfl) | ((with_reducible apply RS.cmpT); exact rfl; exact rfl; exact rfl; exact rfl; (simp only [cmpP]; omega)) | ((with_reducible apply RS.cmpC); exact rfl; exact rfl; exact rfl; exact rfl; exact rfl) | ((with_reducible apply RS.fieldAddr); exact rfl; exact rfl; exact rfl) | ((with_reducible apply RS.load1); exact rfl; exact rfl; exact rfl; exact rfl; exact rfl; exact rfl) | ((with_reducible apply RS.skip); exact rfl; exact rfl) | ((with_reducible apply RS.nil); exact mixed; kernel_rfl) | ((with_reducible apply W.seq)) | ((with_reducible apply W.reg); kernel_rfl) | ((with_reducible apply W.block)) | ((with_reducible apply W.ret)) | ((with_reducible apply W.skip)) | ((with_reducible apply W.condT); kernel_rfl; exact rfl) | ((with_reducible apply thenK_n)) | ((with_reducible apply thenK_r)) | ((with_reducible apply blockK_n))))
  · have hf : ¬ (stepS s).fin = 0 := by simpa using ‹(!(stepS s).fin == 0) = true›
    rw [if_neg hf, show ((stepS s).fin == 0) = false by simpa using hf]
    exact endsK_ret _ (.cons (.tmp rfl) .nil) (by (refine AtE.mk [0, 1, 2, 3, 4, 5, 6, 7] rfl rfl rfl ?_ ?_ rfl <;> (repeat' (first | exact trivial | exact rfl | apply And.intro)); done))
  all_goals
    have hf : (stepS s).fin = 0 := by simpa using ‹(!(stepS s).fin == 0) = false›
    rw [if_pos hf]
    unfold setReg
    first
      | rw [if_pos ‹x.dst ≥ 0›]; exact endsK_ret _ (.cons (.tmp rfl) .nil) (by (refine AtE.mk [0, 1, 2, 3, 4, 5, 6, 7] rfl rfl rfl ?_ ?_ rfl <;> (repeat' (first | exact trivial | exact rfl | exact fr_set List.length_set | apply And.intro)); done))
      | rw [if_neg ‹¬ x.dst ≥ 0›]; exact endsK_ret _ (.cons (.tmp rfl) .nil) (by (refine AtE.mk [0, 1, 2, 3, 4, 5, 6, 7] rfl rfl rfl ?_ ?_ rfl <;> (repeat' (first | exact trivial | exact rfl | apply And.intro)); done))
end Go.Proofs.Ytjhloakacicdiaa
namespace Go.Proofs.Ytjhloakacicdiaa
open Go.AH
attribute [local irreducible] W RS
set_option maxHeartbeats 2000000 in
set_option maxRecDepth 100000 in
theorem insB_te (B : Hp) (pb fb fo : Nat) (hpb : pb < B.n) (hfb : fb < B.n) (s : RunS) (hst : 0 ≤ s.steps ∧ s.steps ≤ 1000000000) (regs at_ : List Int) (hrl : regs.length ≤ 1000000000) (x : InsS) (xb xo : Nat) (xcs : List Value) (xe : TypeId) (A : Option Addr) (c : Nat) (hX : B.m xb = some ⟨⟨xcs⟩, xe⟩) (hXn : xb < B.n) (hXl : xo + 12 ≤ xcs.length) (hXv : takeV xo 12 xcs = insC x A c) (hop : x.op = 22) (hdst : x.dst < regs.length) :
    TE Try.prog 60 B 8 [0, 3, 4, 5, 6] (fun π => [.pointer (some ⟨π 0, 0, none⟩), .pointer (some ⟨π 5, 0, none⟩), .pointer (some ⟨xb, xo, none⟩)]) (frL pb fb fo s regs at_) (.bool ((stepS s).fin == 0)) (frL pb fb fo (stepS s) (if (stepS s).fin = 0 then setReg regs x.dst (widenS (argS regs x.a) x.size x.signed) else regs) at_) := by
  have htw : twoS x.op = false := by rw [hop]; rfl
  refine TE.intro (fn := Try.f60) (c := (Try.f60.body.getD .skip)) Try.func60 (by kernel_rfl) Try.ntmps60 (fun π => by kernel_rfl) (fun π => ⟨⟨_, rfl⟩, ⟨_, rfl⟩, ⟨_, rfl⟩, ⟨_, rfl⟩, ⟨_, rfl⟩, trivial⟩) (fr_par _ _ _ hpb hfb (by omega)) (by simp) fun π => ?_
  conv => arg 2; whnf
  repeat (first | ((with_reducible apply (RS.callO (vs := []) [0, 1, 2, 3, 4] 0)); exact rfl; exact rfl; exact step_to B pb hpb s hst; exact rfl; exact rfl; exact ⟨rfl, rfl, rfl, rfl, rfl, trivial⟩; exact step_fresh _ _ _) | ((with_reducible apply RS.move); exact rfl; exact rfl; exact rfl) | ((with_reducible apply RS.assign); exact rfl; exact rfl; exact rfl) | ((with_reducible apply RS.not); exact rfl; exact rfl; exact rfl) | ((with_reducible apply RS.nil); exact mixed; kernel_rfl) | ((with_reducible apply W.seq)) | ((with_reducible apply W.reg); kernel_rfl) | ((with_reducible apply thenK_n)))
  repeat' ((first | (((with_reducible apply RS.splitD); exact rfl; exact rfl) <;> intro _) | ((((with_reducible apply RS.splitG); exact rfl; exact rfl) <;> intro _) <;> (fail_if_success (exact absurd ‹true = false› (by decide))) <;> (fail_if_success (exact absurd ‹false = true› (by decide)))) | (((with_reducible apply W.condD); exact rfl) <;> intro _) | ((((with_reducible apply W.cond); exact rfl) <;> intro _) <;> (fail_if_success (exact absurd ‹true = false› (by decide))) <;> (fail_if_success (exact absurd ‹false = true› (by decide))))) <;> repeat (first | ((with_reducible apply RS.callR true []); exact rfl; exact rfl; exact rfl; exact fun H hH => (show TF _ _ _ H (.bool false) H by rw [← htw]; exact two_tf x.op H); exact Nm_free (by simp)) | ((with_reducible apply RS.callR true []); exact rfl; exact rfl; exact rfl; exact fun H hH => widen_tf _ _ _ H; exact Nm_free (by simp)) | ((with_reducible apply RS.indexAddrS); exact rfl; exact rfl; exact rfl; exact rfl; exact (Int.toNat_of_nonneg (by omega)).symm; omega) | ((with_reducible apply RS.store); exact rfl; exact rfl; exact rfl; exact rfl; exact rfl; (rw [show (intsC regs).length = regs.length from List.length_map ..]; omega); exact rfl; exact rfl; exact setL_ints _ _ _) | ((with_reducible apply RS.callR false [0]); exact rfl; exact rfl; exact rfl; exact fun H hH => ok_tf (stepS s).fin _ _ H (hH.l 0 rfl (by simp)) rfl; exact Nm_free (by simp)) | ((with_reducible apply RS.load1B); exact rfl; exact rfl; exact rfl; exact hX; exact hXn; (first | exact take_nth (j := 0) hXv rfl | exact take_nth (j := 1) hXv rfl | exact take_nth (j := 6) hXv rfl | exact take_nth (j := 9) hXv rfl | exact take_nth (j := 7) hXv rfl | exact take_nth (j := 10) hXv rfl)) | ((with_reducible apply RS.loadNB); exact rfl; exact rfl; exact rfl; exact hX; exact hXn; omega; (first | exact takeV_sub (j := 2) (n := 2) hXv (by omega) | exact takeV_sub (j := 4) (n := 2) hXv (by omega))) | ((with_reducible apply RS.callR false [5, 6]); exact rfl; exact rfl; exact rfl; exact fun H hH => arg_tf x.a regs _ _ _ H hrl (hH.l 5 rfl (by simp)) rfl (hH.l 6 rfl (by simp)); exact Nm_free (by simp)) | ((with_reducible apply RS.callR false [5, 6]); exact rfl; exact rfl; exact rfl; exact fun H hH => arg_tf x.b regs _ _ _ H hrl (hH.l 5 rfl (by simp)) rfl (hH.l 6 rfl (by simp)); exact Nm_free (by simp)) | ((with_reducible apply RS.nilCheck); exact rfl; exact rfl; exact rfl) | ((with_reducible apply RS.move); exact rfl; exact rfl; exact rfl) | ((with_reducible apply RS.assign); exact rfl; exact rfl; exact rfl) | ((with_reducible apply RS.pickF); exact rfl; exact rfl; exact rfl; exact rfl) | ((with_reducible apply RS.cmpT); exact rfl; exact rfl; exact rfl; exact rfl; (simp only [cmpP]; omega)) | ((with_reducible apply RS.cmpF); exact rfl; exact rfl; exact rfl; exact rfl; (simp only [cmpN]; omega)) | ((with_reducible apply RS.cmpC); exact rfl; exact rfl; exact rfl; exact rfl; exact rfl) | ((with_reducible apply RS.fieldAddr); exact rfl; exact rfl; exact rfl) | ((with_reducible apply RS.load1); exact rfl; exact rfl; exact rfl; exact rfl; exact rfl; exact rfl) | ((with_reducible apply RS.nil); exact mixed; kernel_rfl) | ((with_reducible apply W.seq)) | ((with_reducible apply W.reg); kernel_rfl) | ((with_reducible apply W.block)) | ((with_reducible apply W.ret)) | ((with_reducible apply W.skip)) | ((with_reducible apply W.condT); kernel_rfl; exact rfl) | ((with_reducible apply W.condF); kernel_rfl; exact rfl) | ((with_reducible apply thenK_n)) | ((with_reducible apply thenK_r)) | ((with_reducible apply blockK_n))))
  · have hf : ¬ (stepS s).fin = 0 := by simpa using ‹(!(stepS s).fin == 0) = true›
    rw [if_neg hf, show ((stepS s).fin == 0) = false by simpa using hf]
    exact endsK_ret _ (.cons (.tmp rfl) .nil) (by (refine AtE.mk [0, 1, 2, 3, 4, 5, 6, 7] rfl rfl rfl ?_ ?_ rfl <;> (repeat' (first | exact trivial | exact rfl | apply And.intro)); done))
  all_goals
    have hf : (stepS s).fin = 0 := by simpa using ‹(!(stepS s).fin == 0) = false›
    rw [if_pos hf]
    unfold setReg
    first
      | rw [if_pos ‹x.dst ≥ 0›]; exact endsK_ret _ (.cons (.tmp rfl) .nil) (by (refine AtE.mk [0, 1, 2, 3, 4, 5, 6, 7] rfl rfl rfl ?_ ?_ rfl <;> (repeat' (first | exact trivial | exact rfl | exact fr_set List.length_set | apply And.intro)); done))
      | rw [if_neg ‹¬ x.dst ≥ 0›]; exact endsK_ret _ (.cons (.tmp rfl) .nil) (by (refine AtE.mk [0, 1, 2, 3, 4, 5, 6, 7] rfl rfl rfl ?_ ?_ rfl <;> (repeat' (first | exact trivial | exact rfl | apply And.intro)); done))
set_option maxHeartbeats 2000000 in
set_option maxRecDepth 100000 in
theorem insC_te (B : Hp) (pb fb fo : Nat) (hpb : pb < B.n) (hfb : fb < B.n) (s : RunS) (hst : 0 ≤ s.steps ∧ s.steps ≤ 1000000000) (regs at_ : List Int) (hrl : regs.length ≤ 1000000000) (x : InsS) (xb xo : Nat) (xcs : List Value) (xe : TypeId) (A : Option Addr) (c : Nat) (hX : B.m xb = some ⟨⟨xcs⟩, xe⟩) (hXn : xb < B.n) (hXl : xo + 12 ≤ xcs.length) (hXv : takeV xo 12 xcs = insC x A c) (hop : x.op = 25) (hr : 0 ≤ x.ref ∧ x.ref ≤ 1000000) (hdst : x.dst < regs.length) :
    TE Try.prog 60 B 8 [0, 3, 4, 5, 6] (fun π => [.pointer (some ⟨π 0, 0, none⟩), .pointer (some ⟨π 5, 0, none⟩), .pointer (some ⟨xb, xo, none⟩)]) (frL pb fb fo s regs at_) (.bool ((stepS s).fin == 0)) (frL pb fb fo (stepS s) (if (stepS s).fin = 0 then setReg regs x.dst (4194304 + 16 * x.ref) else regs) at_) := by
  have htw : twoS x.op = false := by rw [hop]; rfl
  refine TE.intro (fn := Try.f60) (c := (Try.f60.body.getD .skip)) Try.func60 (by kernel_rfl) Try.ntmps60 (fun π => by kernel_rfl) (fun π => ⟨⟨_, rfl⟩, ⟨_, rfl⟩, ⟨_, rfl⟩, ⟨_, rfl⟩, ⟨_, rfl⟩, trivial⟩) (fr_par _ _ _ hpb hfb (by omega)) (by simp) fun π => ?_
  conv => arg 2; whnf
  repeat (first | ((with_reducible apply (RS.callO (vs := []) [0, 1, 2, 3, 4] 0)); exact rfl; exact rfl; exact step_to B pb hpb s hst; exact rfl; exact rfl; exact ⟨rfl, rfl, rfl, rfl, rfl, trivial⟩; exact step_fresh _ _ _) | ((with_reducible apply RS.move); exact rfl; exact rfl; exact rfl) | ((with_reducible apply RS.assign); exact rfl; exact rfl; exact rfl) | ((with_reducible apply RS.not); exact rfl; exact rfl; exact rfl) | ((with_reducible apply RS.nil); exact mixed; kernel_rfl) | ((with_reducible apply W.seq)) | ((with_reducible apply W.reg); kernel_rfl) | ((with_reducible apply thenK_n)))
  repeat' ((first | (((with_reducible apply RS.splitD); exact rfl; exact rfl) <;> intro _) | ((((with_reducible apply RS.splitG); exact rfl; exact rfl) <;> intro _) <;> (fail_if_success (exact absurd ‹true = false› (by decide))) <;> (fail_if_success (exact absurd ‹false = true› (by decide)))) | (((with_reducible apply W.condD); exact rfl) <;> intro _) | ((((with_reducible apply W.cond); exact rfl) <;> intro _) <;> (fail_if_success (exact absurd ‹true = false› (by decide))) <;> (fail_if_success (exact absurd ‹false = true› (by decide))))) <;> repeat (first | ((with_reducible apply RS.callR true []); exact rfl; exact rfl; exact rfl; exact fun H hH => (show TF _ _ _ H (.bool false) H by rw [← htw]; exact two_tf x.op H); exact Nm_free (by simp)) | ((with_reducible apply RS.indexAddrS); exact rfl; exact rfl; exact rfl; exact rfl; exact (Int.toNat_of_nonneg (by omega)).symm; omega) | ((with_reducible apply RS.store); exact rfl; exact rfl; exact rfl; exact rfl; exact rfl; (rw [show (intsC regs).length = regs.length from List.length_map ..]; omega); exact rfl; exact rfl; exact setL_ints _ _ _) | ((with_reducible apply RS.callR false [0]); exact rfl; exact rfl; exact rfl; exact fun H hH => ok_tf (stepS s).fin _ _ H (hH.l 0 rfl (by simp)) rfl; exact Nm_free (by simp)) | ((with_reducible apply RS.load1B); exact rfl; exact rfl; exact rfl; exact hX; exact hXn; (first | exact take_nth (j := 0) hXv rfl | exact take_nth (j := 1) hXv rfl | exact take_nth (j := 6) hXv rfl | exact take_nth (j := 9) hXv rfl | exact take_nth (j := 7) hXv rfl | exact take_nth (j := 10) hXv rfl)) | ((with_reducible apply RS.loadNB); exact rfl; exact rfl; exact rfl; exact hX; exact hXn; omega; (first | exact takeV_sub (j := 2) (n := 2) hXv (by omega) | exact takeV_sub (j := 4) (n := 2) hXv (by omega))) | ((with_reducible apply RS.callR false [5, 6]); exact rfl; exact rfl; exact rfl; exact fun H hH => arg_tf x.a regs _ _ _ H hrl (hH.l 5 rfl (by simp)) rfl (hH.l 6 rfl (by simp)); exact Nm_free (by simp)) | ((with_reducible apply RS.callR false [5, 6]); exact rfl; exact rfl; exact rfl; exact fun H hH => arg_tf x.b regs _ _ _ H hrl (hH.l 5 rfl (by simp)) rfl (hH.l 6 rfl (by simp)); exact Nm_free (by simp)) | ((with_reducible apply RS.nilCheck); exact rfl; exact rfl; exact rfl) | ((with_reducible apply RS.move); exact rfl; exact rfl; exact rfl) | ((with_reducible apply RS.assign); exact rfl; exact rfl; exact rfl) | ((with_reducible apply RS.pickF); exact rfl; exact rfl; exact rfl; exact rfl) | ((with_reducible apply RS.cmpT); exact rfl; exact rfl; exact rfl; exact rfl; (simp only [cmpP]; omega)) | ((with_reducible apply RS.cmpF); exact rfl; exact rfl; exact rfl; exact rfl; (simp only [cmpN]; omega)) | ((with_reducible apply RS.cmpC); exact rfl; exact rfl; exact rfl; exact rfl; exact rfl) | ((with_reducible apply RS.binFit); exact rfl; exact rfl; exact rfl; exact rfl; exact rfl; omega) | ((with_reducible apply RS.fieldAddr); exact rfl; exact rfl; exact rfl) | ((with_reducible apply RS.load1); exact rfl; exact rfl; exact rfl; exact rfl; exact rfl; exact rfl) | ((with_reducible apply RS.nil); exact mixed; kernel_rfl) | ((with_reducible apply W.seq)) | ((with_reducible apply W.reg); kernel_rfl) | ((with_reducible apply W.block)) | ((with_reducible apply W.ret)) | ((with_reducible apply W.skip)) | ((with_reducible apply W.condT); kernel_rfl; exact rfl) | ((with_reducible apply W.condF); kernel_rfl; exact rfl) | ((with_reducible apply thenK_n)) | ((with_reducible apply thenK_r)) | ((with_reducible apply blockK_n))))
  · have hf : ¬ (stepS s).fin = 0 := by simpa using ‹(!(stepS s).fin == 0) = true›
    rw [if_neg hf, show ((stepS s).fin == 0) = false by simpa using hf]
    exact endsK_ret _ (.cons (.tmp rfl) .nil) (by (refine AtE.mk [0, 1, 2, 3, 4, 5, 6, 7] rfl rfl rfl ?_ ?_ rfl <;> (repeat' (first | exact trivial | exact rfl | apply And.intro)); done))
  all_goals
    have hf : (stepS s).fin = 0 := by simpa using ‹(!(stepS s).fin == 0) = false›
    rw [if_pos hf]
    unfold setReg
    first
      | rw [if_pos ‹x.dst ≥ 0›]; exact endsK_ret _ (.cons (.tmp rfl) .nil) (by (refine AtE.mk [0, 1, 2, 3, 4, 5, 6, 7] rfl rfl rfl ?_ ?_ rfl <;> (repeat' (first | exact trivial | exact rfl | exact fr_set List.length_set | apply And.intro)); done))
      | rw [if_neg ‹¬ x.dst ≥ 0›]; exact endsK_ret _ (.cons (.tmp rfl) .nil) (by (refine AtE.mk [0, 1, 2, 3, 4, 5, 6, 7] rfl rfl rfl ?_ ?_ rfl <;> (repeat' (first | exact trivial | exact rfl | apply And.intro)); done))
end Go.Proofs.Ytjhloakacicdiaa
namespace Go.Proofs.Ytjhloakacicdiaa
open Go.AH
attribute [local irreducible] W RS
set_option maxHeartbeats 4000000 in
set_option maxRecDepth 100000 in
theorem insD_te (B : Hp) (pb fb fo : Nat) (hpb : pb < B.n) (hfb : fb < B.n) (s : RunS) (hst : 0 ≤ s.steps ∧ s.steps ≤ 1000000000) (regs at_ : List Int) (hrl : regs.length ≤ 1000000000) (x : InsS) (xb xo : Nat) (xcs : List Value) (xe : TypeId) (A : Option Addr) (c : Nat) (hX : B.m xb = some ⟨⟨xcs⟩, xe⟩) (hXn : xb < B.n) (hXl : xo + 12 ≤ xcs.length) (hXv : takeV xo 12 xcs = insC x A c) (hop : twoS x.op = true) (hb0 : -9223372036854775808 ≤ argS regs x.b) (hb1 : argS regs x.b ≤ 9223372036854775807) (hq : (reckonS x.op (argS regs x.a) (argS regs x.b)).2 = true) (hdst : x.dst < regs.length) :
    TE Try.prog 60 B 8 [0, 3, 4, 5, 6] (fun π => [.pointer (some ⟨π 0, 0, none⟩), .pointer (some ⟨π 5, 0, none⟩), .pointer (some ⟨xb, xo, none⟩)]) (frL pb fb fo s regs at_) (.bool (((stepS s) : RunS).fin == 0)) (frL pb fb fo (stepS s) (if (stepS s).fin = 0 then setReg regs x.dst (reckonS x.op (argS regs x.a) (argS regs x.b)).1 else regs) at_) := by
  have htw : twoS x.op = true := hop
  have hop' : 3 ≤ x.op ∧ x.op ≤ 21 := by unfold twoS at hop; simpa using hop
  refine TE.intro (fn := Try.f60) (c := (Try.f60.body.getD .skip)) Try.func60 (by kernel_rfl) Try.ntmps60 (fun π => by kernel_rfl) (fun π => ⟨⟨_, rfl⟩, ⟨_, rfl⟩, ⟨_, rfl⟩, ⟨_, rfl⟩, ⟨_, rfl⟩, trivial⟩) (fr_par _ _ _ hpb hfb (by omega)) (by simp) fun π => ?_
  conv => arg 2; whnf
  repeat (first | ((with_reducible apply (RS.callO (vs := []) [0, 1, 2, 3, 4] 0)); exact rfl; exact rfl; exact step_to B pb hpb s hst; exact rfl; exact rfl; exact ⟨rfl, rfl, rfl, rfl, rfl, trivial⟩; exact step_fresh _ _ _) | ((with_reducible apply RS.move); exact rfl; exact rfl; exact rfl) | ((with_reducible apply RS.assign); exact rfl; exact rfl; exact rfl) | ((with_reducible apply RS.not); exact rfl; exact rfl; exact rfl) | ((with_reducible apply RS.nil); exact mixed; kernel_rfl) | ((with_reducible apply W.seq)) | ((with_reducible apply W.reg); kernel_rfl) | ((with_reducible apply thenK_n)))
  repeat' ((first | (((with_reducible apply RS.splitD); exact rfl; exact rfl) <;> intro _) | ((((with_reducible apply RS.splitG); exact rfl; exact rfl) <;> intro _) <;> (fail_if_success (exact absurd ‹true = false› (by decide))) <;> (fail_if_success (exact absurd ‹false = true› (by decide)))) | (((with_reducible apply W.condD); exact rfl) <;> intro _) | ((((with_reducible apply W.cond); exact rfl) <;> intro _) <;> (fail_if_success (exact absurd ‹true = false› (by decide))) <;> (fail_if_success (exact absurd ‹false = true› (by decide))))) <;> repeat (first | ((with_reducible apply RS.callR true []); exact rfl; exact rfl; exact rfl; exact fun H hH => (show TF _ _ _ H (.bool true) H by rw [← htw]; exact two_tf x.op H); exact Nm_free (by simp)) | ((with_reducible apply RS.indexAddrS); exact rfl; exact rfl; exact rfl; exact rfl; exact (Int.toNat_of_nonneg (by omega)).symm; omega) | ((with_reducible apply RS.store); exact rfl; exact rfl; exact rfl; exact rfl; exact rfl; (rw [show (intsC regs).length = regs.length from List.length_map ..]; omega); exact rfl; exact rfl; exact setL_ints _ _ _) | ((with_reducible apply RS.callR false [0]); exact rfl; exact rfl; exact rfl; exact fun H hH => ok_tf _ _ _ H (hH.l 0 rfl (by simp)) rfl; exact Nm_free (by simp)) | ((with_reducible apply RS.load1B); exact rfl; exact rfl; exact rfl; exact hX; exact hXn; (first | exact take_nth (j := 0) hXv rfl | exact take_nth (j := 1) hXv rfl | exact take_nth (j := 6) hXv rfl | exact take_nth (j := 9) hXv rfl | exact take_nth (j := 7) hXv rfl | exact take_nth (j := 10) hXv rfl)) | ((with_reducible apply RS.loadNB); exact rfl; exact rfl; exact rfl; exact hX; exact hXn; omega; (first | exact takeV_sub (j := 2) (n := 2) hXv (by omega) | exact takeV_sub (j := 4) (n := 2) hXv (by omega))) | ((with_reducible apply RS.callR false [5, 6]); exact rfl; exact rfl; exact rfl; exact fun H hH => arg_tf x.a regs _ _ _ H hrl (hH.l 5 rfl (by simp)) rfl (hH.l 6 rfl (by simp)); exact Nm_free (by simp)) | ((with_reducible apply RS.callR false [5, 6]); exact rfl; exact rfl; exact rfl; exact fun H hH => arg_tf x.b regs _ _ _ H hrl (hH.l 5 rfl (by simp)) rfl (hH.l 6 rfl (by simp)); exact Nm_free (by simp)) | ((with_reducible apply RS.callR true []); exact rfl; exact rfl; exact rfl; exact fun H hH => (show TF _ _ _ H (.tuple ⟨[.int .i64 (reckonS x.op (argS regs x.a) (argS regs x.b)).1, .bool true]⟩) H by have hq0 := reckon_tf x.op (argS regs x.a) (argS regs x.b) hb0 hb1 H; unfold pairV at hq0; rw [hq] at hq0; exact hq0); exact Nm_free (by simp)) | ((with_reducible apply RS.nilCheck); exact rfl; exact rfl; exact rfl) | ((with_reducible apply RS.move); exact rfl; exact rfl; exact rfl) | ((with_reducible apply RS.assign); exact rfl; exact rfl; exact rfl) | ((with_reducible apply RS.pickF); exact rfl; exact rfl; exact rfl; exact rfl) | ((with_reducible apply RS.cmpF); exact rfl; exact rfl; exact rfl; exact rfl; (simp only [cmpN]; omega)) | ((with_reducible apply RS.cmpC); exact rfl; exact rfl; exact rfl; exact rfl; exact rfl) | ((with_reducible apply RS.not); exact rfl; exact rfl; exact rfl) | ((with_reducible apply RS.extract); exact rfl; exact rfl; exact rfl; exact rfl) | ((with_reducible apply RS.fieldAddr); exact rfl; exact rfl; exact rfl) | ((with_reducible apply RS.load1); exact rfl; exact rfl; exact rfl; exact rfl; exact rfl; exact rfl) | ((with_reducible apply RS.nil); exact mixed; kernel_rfl) | ((with_reducible apply W.seq)) | ((with_reducible apply W.reg); kernel_rfl) | ((with_reducible apply W.block)) | ((with_reducible apply W.ret)) | ((with_reducible apply W.skip)) | ((with_reducible apply W.condT); kernel_rfl; exact rfl) | ((with_reducible apply W.condF); kernel_rfl; exact rfl) | ((with_reducible apply thenK_n)) | ((with_reducible apply thenK_r)) | ((with_reducible apply blockK_n))))
  · have hf : ¬ (stepS s).fin = 0 := by simpa using ‹(!(stepS s).fin == 0) = true›
    simp only [if_neg hf]
    rw [show ((stepS s).fin == 0) = false by simpa using hf]
    exact endsK_ret _ (.cons (.tmp rfl) .nil) (by (refine AtE.mk [0, 1, 2, 3, 4, 5, 6, 7] rfl rfl rfl ?_ ?_ rfl <;> (repeat' (first | exact trivial | exact rfl | exact fr_set List.length_set | apply And.intro)); done))
  all_goals
    have hf : (stepS s).fin = 0 := by simpa using ‹(!(stepS s).fin == 0) = false›
    simp only [if_pos hf]
    unfold setReg
    first
      | rw [if_pos ‹x.dst ≥ 0›]; exact endsK_ret _ (.cons (.tmp rfl) .nil) (by (refine AtE.mk [0, 1, 2, 3, 4, 5, 6, 7] rfl rfl rfl ?_ ?_ rfl <;> (repeat' (first | exact trivial | exact rfl | exact fr_set List.length_set | apply And.intro)); done))
      | rw [if_neg ‹¬ x.dst ≥ 0›]; exact endsK_ret _ (.cons (.tmp rfl) .nil) (by (refine AtE.mk [0, 1, 2, 3, 4, 5, 6, 7] rfl rfl rfl ?_ ?_ rfl <;> (repeat' (first | exact trivial | exact rfl | exact fr_set List.length_set | apply And.intro)); done))
set_option maxHeartbeats 4000000 in
set_option maxRecDepth 100000 in
theorem insE_te (B : Hp) (pb fb fo : Nat) (hpb : pb < B.n) (hfb : fb < B.n) (s : RunS) (hst : 0 ≤ s.steps ∧ s.steps ≤ 1000000000) (regs at_ : List Int) (hrl : regs.length ≤ 1000000000) (x : InsS) (xb xo : Nat) (xcs : List Value) (xe : TypeId) (A : Option Addr) (c : Nat) (hX : B.m xb = some ⟨⟨xcs⟩, xe⟩) (hXn : xb < B.n) (hXl : xo + 12 ≤ xcs.length) (hXv : takeV xo 12 xcs = insC x A c) (hop : twoS x.op = true) (hb0 : -9223372036854775808 ≤ argS regs x.b) (hb1 : argS regs x.b ≤ 9223372036854775807) (hq : (reckonS x.op (argS regs x.a) (argS regs x.b)).2 = false) (hdst : x.dst < regs.length) :
    TE Try.prog 60 B 8 [0, 3, 4, 5, 6] (fun π => [.pointer (some ⟨π 0, 0, none⟩), .pointer (some ⟨π 5, 0, none⟩), .pointer (some ⟨xb, xo, none⟩)]) (frL pb fb fo s regs at_) (.bool (((if (stepS s).fin = 0 then stopS (stepS s) 41 else stepS s) : RunS).fin == 0)) (frL pb fb fo (if (stepS s).fin = 0 then stopS (stepS s) 41 else stepS s) (if (stepS s).fin = 0 then setReg regs x.dst (reckonS x.op (argS regs x.a) (argS regs x.b)).1 else regs) at_) := by
  have htw : twoS x.op = true := hop
  have hop' : 3 ≤ x.op ∧ x.op ≤ 21 := by unfold twoS at hop; simpa using hop
  refine TE.intro (fn := Try.f60) (c := (Try.f60.body.getD .skip)) Try.func60 (by kernel_rfl) Try.ntmps60 (fun π => by kernel_rfl) (fun π => ⟨⟨_, rfl⟩, ⟨_, rfl⟩, ⟨_, rfl⟩, ⟨_, rfl⟩, ⟨_, rfl⟩, trivial⟩) (fr_par _ _ _ hpb hfb (by omega)) (by simp) fun π => ?_
  conv => arg 2; whnf
  repeat (first | ((with_reducible apply (RS.callO (vs := []) [0, 1, 2, 3, 4] 0)); exact rfl; exact rfl; exact step_to B pb hpb s hst; exact rfl; exact rfl; exact ⟨rfl, rfl, rfl, rfl, rfl, trivial⟩; exact step_fresh _ _ _) | ((with_reducible apply RS.move); exact rfl; exact rfl; exact rfl) | ((with_reducible apply RS.assign); exact rfl; exact rfl; exact rfl) | ((with_reducible apply RS.not); exact rfl; exact rfl; exact rfl) | ((with_reducible apply RS.nil); exact mixed; kernel_rfl) | ((with_reducible apply W.seq)) | ((with_reducible apply W.reg); kernel_rfl) | ((with_reducible apply thenK_n)))
  repeat' ((first | (((with_reducible apply RS.splitD); exact rfl; exact rfl) <;> intro _) | ((((with_reducible apply RS.splitG); exact rfl; exact rfl) <;> intro _) <;> (fail_if_success (exact absurd ‹true = false› (by decide))) <;> (fail_if_success (exact absurd ‹false = true› (by decide)))) | (((with_reducible apply W.condD); exact rfl) <;> intro _) | ((((with_reducible apply W.cond); exact rfl) <;> intro _) <;> (fail_if_success (exact absurd ‹true = false› (by decide))) <;> (fail_if_success (exact absurd ‹false = true› (by decide))))) <;> repeat (first | ((with_reducible apply RS.callR true []); exact rfl; exact rfl; exact rfl; exact fun H hH => (show TF _ _ _ H (.bool true) H by rw [← htw]; exact two_tf x.op H); exact Nm_free (by simp)) | ((with_reducible apply RS.indexAddrS); exact rfl; exact rfl; exact rfl; exact rfl; exact (Int.toNat_of_nonneg (by omega)).symm; omega) | ((with_reducible apply RS.store); exact rfl; exact rfl; exact rfl; exact rfl; exact rfl; (rw [show (intsC regs).length = regs.length from List.length_map ..]; omega); exact rfl; exact rfl; exact setL_ints _ _ _) | ((with_reducible apply RS.callR false [0]); exact rfl; exact rfl; exact rfl; exact fun H hH => ok_tf _ _ _ H (hH.l 0 rfl (by simp)) rfl; exact Nm_free (by simp)) | ((with_reducible apply RS.load1B); exact rfl; exact rfl; exact rfl; exact hX; exact hXn; (first | exact take_nth (j := 0) hXv rfl | exact take_nth (j := 1) hXv rfl | exact take_nth (j := 6) hXv rfl | exact take_nth (j := 9) hXv rfl | exact take_nth (j := 7) hXv rfl | exact take_nth (j := 10) hXv rfl)) | ((with_reducible apply RS.loadNB); exact rfl; exact rfl; exact rfl; exact hX; exact hXn; omega; (first | exact takeV_sub (j := 2) (n := 2) hXv (by omega) | exact takeV_sub (j := 4) (n := 2) hXv (by omega))) | ((with_reducible apply RS.callR false [5, 6]); exact rfl; exact rfl; exact rfl; exact fun H hH => arg_tf x.a regs _ _ _ H hrl (hH.l 5 rfl (by simp)) rfl (hH.l 6 rfl (by simp)); exact Nm_free (by simp)) | ((with_reducible apply RS.callR false [5, 6]); exact rfl; exact rfl; exact rfl; exact fun H hH => arg_tf x.b regs _ _ _ H hrl (hH.l 5 rfl (by simp)) rfl (hH.l 6 rfl (by simp)); exact Nm_free (by simp)) | ((with_reducible apply RS.callR true []); exact rfl; exact rfl; exact rfl; exact fun H hH => (show TF _ _ _ H (.tuple ⟨[.int .i64 (reckonS x.op (argS regs x.a) (argS regs x.b)).1, .bool false]⟩) H by have hq0 := reckon_tf x.op (argS regs x.a) (argS regs x.b) hb0 hb1 H; unfold pairV at hq0; rw [hq] at hq0; exact hq0); exact Nm_free (by simp)) | ((with_reducible apply (RS.callO (vs := []) [0, 1, 2, 3, 4] 0)); exact rfl; exact rfl; exact stop_to _ pb hpb (stepS s) 41; exact rfl; exact rfl; exact ⟨rfl, rfl, rfl, rfl, rfl, trivial⟩; exact stop_fresh _ _ _ _) | ((with_reducible apply RS.nilCheck); exact rfl; exact rfl; exact rfl) | ((with_reducible apply RS.move); exact rfl; exact rfl; exact rfl) | ((with_reducible apply RS.assign); exact rfl; exact rfl; exact rfl) | ((with_reducible apply RS.pickF); exact rfl; exact rfl; exact rfl; exact rfl) | ((with_reducible apply RS.cmpF); exact rfl; exact rfl; exact rfl; exact rfl; (simp only [cmpN]; omega)) | ((with_reducible apply RS.cmpC); exact rfl; exact rfl; exact rfl; exact rfl; exact rfl) | ((with_reducible apply RS.not); exact rfl; exact rfl; exact rfl) | ((with_reducible apply RS.extract); exact rfl; exact rfl; exact rfl; exact rfl) | ((with_reducible apply RS.fieldAddr); exact rfl; exact rfl; exact rfl) | ((with_reducible apply RS.load1); exact rfl; exact rfl; exact rfl; exact rfl; exact rfl; exact rfl) | ((with_reducible apply RS.nil); exact mixed; kernel_rfl) | ((with_reducible apply W.seq)) | ((with_reducible apply W.reg); kernel_rfl) | ((with_reducible apply W.block)) | ((with_reducible apply W.ret)) | ((with_reducible apply W.skip)) | ((with_reducible apply W.condT); kernel_rfl; exact rfl) | ((with_reducible apply W.condF); kernel_rfl; exact rfl) | ((with_reducible apply thenK_n)) | ((with_reducible apply thenK_r)) | ((with_reducible apply blockK_n))))
  · have hf : ¬ (stepS s).fin = 0 := by simpa using ‹(!(stepS s).fin == 0) = true›
    simp only [if_neg hf]
    rw [show ((stepS s).fin == 0) = false by simpa using hf]
    exact endsK_ret _ (.cons (.tmp rfl) .nil) (by (refine AtE.mk [0, 1, 2, 3, 4, 5, 6, 7] rfl rfl rfl ?_ ?_ rfl <;> (repeat' (first | exact trivial | exact rfl | exact fr_set List.length_set | apply And.intro)); done))
  all_goals
    have hf : (stepS s).fin = 0 := by simpa using ‹(!(stepS s).fin == 0) = false›
    simp only [if_pos hf]
    unfold setReg
    first
      | rw [if_pos ‹x.dst ≥ 0›]; exact endsK_ret _ (.cons (.tmp rfl) .nil) (by (refine AtE.mk [0, 1, 2, 3, 4, 5, 6, 7] rfl rfl rfl ?_ ?_ rfl <;> (repeat' (first | exact trivial | exact rfl | exact fr_set List.length_set | apply And.intro)); done))
      | rw [if_neg ‹¬ x.dst ≥ 0›]; exact endsK_ret _ (.cons (.tmp rfl) .nil) (by (refine AtE.mk [0, 1, 2, 3, 4, 5, 6, 7] rfl rfl rfl ?_ ?_ rfl <;> (repeat' (first | exact trivial | exact rfl | exact fr_set List.length_set | apply And.intro)); done))
end Go.Proofs.Ytjhloakacicdiaa
namespace Go.Proofs.Ytjhloakacicdiaa
open Go.AH
attribute [local irreducible] W RS
set_option maxHeartbeats 4000000 in
set_option maxRecDepth 100000 in
theorem insG_te (B : Hp) (pb fb fo : Nat) (hpb : pb < B.n) (hfb : fb < B.n) (s : RunS) (hst : 0 ≤ s.steps ∧ s.steps ≤ 1000000000) (regs at_ : List Int) (hrl : regs.length ≤ 1000000000) (x : InsS) (xb xo : Nat) (xcs : List Value) (xe : TypeId) (A : Option Addr) (c : Nat) (hX : B.m xb = some ⟨⟨xcs⟩, xe⟩) (hXn : xb < B.n) (hXl : xo + 12 ≤ xcs.length) (hXv : takeV xo 12 xcs = insC x A c) (hop : x.op = 23) (p : ProgS) (pe : TypeId) (P1 : Option Addr) (d1 gb go : Nat) (d2 : Nat) (hP : B.m pb = some ⟨⟨progC p P1 d1 (some ⟨gb, go, none⟩) d2⟩, pe⟩) (g : GlobS) (hr0 : 0 ≤ x.ref) (hil : x.ref < p.globals.length) (gcs : List Value) (ge : TypeId) (GA : Option Addr) (gc : Nat) (hG : B.m gb = some ⟨⟨gcs⟩, ge⟩) (hGn : gb < B.n) (hGl : go + x.ref.toNat * 4 + 4 ≤ gcs.length) (hGv : takeV (go + x.ref.toNat * 4) 4 gcs = globC g GA gc) (hdst : x.dst < regs.length) :
    TE Try.prog 60 B 8 [0, 3, 4, 5, 6] (fun π => [.pointer (some ⟨π 0, 0, none⟩), .pointer (some ⟨π 5, 0, none⟩), .pointer (some ⟨xb, xo, none⟩)]) (frL pb fb fo s regs at_) (.bool (((stepS s) : RunS).fin == 0)) (frL pb fb fo (stepS s) (if (stepS s).fin = 0 then setReg regs x.dst (i64 (i64 (65536 + g.place) + x.off)) else regs) at_) := by
  have htw : twoS x.op = false := by rw [hop]; rfl
  have hPn := hpb
  refine TE.intro (fn := Try.f60) (c := (Try.f60.body.getD .skip)) Try.func60 (by kernel_rfl) Try.ntmps60 (fun π => by kernel_rfl) (fun π => ⟨⟨_, rfl⟩, ⟨_, rfl⟩, ⟨_, rfl⟩, ⟨_, rfl⟩, ⟨_, rfl⟩, trivial⟩) (fr_par _ _ _ hpb hfb (by omega)) (by simp) fun π => ?_
  conv => arg 2; whnf
  repeat (first | ((with_reducible apply (RS.callO (vs := []) [0, 1, 2, 3, 4] 0)); exact rfl; exact rfl; exact step_to B pb hpb s hst; exact rfl; exact rfl; exact ⟨rfl, rfl, rfl, rfl, rfl, trivial⟩; exact step_fresh _ _ _) | ((with_reducible apply RS.move); exact rfl; exact rfl; exact rfl) | ((with_reducible apply RS.assign); exact rfl; exact rfl; exact rfl) | ((with_reducible apply RS.not); exact rfl; exact rfl; exact rfl) | ((with_reducible apply RS.nil); exact mixed; kernel_rfl) | ((with_reducible apply W.seq)) | ((with_reducible apply W.reg); kernel_rfl) | ((with_reducible apply thenK_n)))
  repeat' ((first | (((with_reducible apply RS.splitD); exact rfl; exact rfl) <;> intro _) | ((((with_reducible apply RS.splitG); exact rfl; exact rfl) <;> intro _) <;> (fail_if_success (exact absurd ‹true = false› (by decide))) <;> (fail_if_success (exact absurd ‹false = true› (by decide)))) | (((with_reducible apply W.condD); exact rfl) <;> intro _) | ((((with_reducible apply W.cond); exact rfl) <;> intro _) <;> (fail_if_success (exact absurd ‹true = false› (by decide))) <;> (fail_if_success (exact absurd ‹false = true› (by decide))))) <;> repeat (first | ((with_reducible apply RS.callR true []); exact rfl; exact rfl; exact rfl; exact fun H hH => (show TF _ _ _ H (.bool false) H by rw [← htw]; exact two_tf x.op H); exact Nm_free (by simp)) | ((with_reducible apply RS.indexAddrS); exact rfl; exact rfl; exact rfl; exact rfl; exact (Int.toNat_of_nonneg (by omega)).symm; omega) | ((with_reducible apply RS.store); exact rfl; exact rfl; exact rfl; exact rfl; exact rfl; (rw [show (intsC regs).length = regs.length from List.length_map ..]; omega); exact rfl; exact rfl; exact setL_ints _ _ _) | ((with_reducible apply RS.callR false [0]); exact rfl; exact rfl; exact rfl; exact fun H hH => ok_tf _ _ _ H (hH.l 0 rfl (by simp)) rfl; exact Nm_free (by simp)) | ((with_reducible apply RS.load1B); exact rfl; exact rfl; exact rfl; exact hX; exact hXn; (first | exact take_nth (j := 0) hXv rfl | exact take_nth (j := 1) hXv rfl | exact take_nth (j := 6) hXv rfl | exact take_nth (j := 9) hXv rfl | exact take_nth (j := 7) hXv rfl | exact take_nth (j := 10) hXv rfl)) | ((with_reducible apply RS.loadNB); exact rfl; exact rfl; exact rfl; exact hX; exact hXn; omega; (first | exact takeV_sub (j := 2) (n := 2) hXv (by omega) | exact takeV_sub (j := 4) (n := 2) hXv (by omega))) | ((with_reducible apply RS.callR false [5, 6]); exact rfl; exact rfl; exact rfl; exact fun H hH => arg_tf x.a regs _ _ _ H hrl (hH.l 5 rfl (by simp)) rfl (hH.l 6 rfl (by simp)); exact Nm_free (by simp)) | ((with_reducible apply RS.callR false [5, 6]); exact rfl; exact rfl; exact rfl; exact fun H hH => arg_tf x.b regs _ _ _ H hrl (hH.l 5 rfl (by simp)) rfl (hH.l 6 rfl (by simp)); exact Nm_free (by simp)) | ((with_reducible apply RS.load1B); exact rfl; exact rfl; exact rfl; exact hP; exact hPn; exact rfl) | ((with_reducible apply RS.load1B); exact rfl; exact rfl; exact rfl; exact hG; exact hGn; exact take_nth (j := 1) hGv rfl) | ((with_reducible apply RS.nilCheck); exact rfl; exact rfl; exact rfl) | ((with_reducible apply RS.move); exact rfl; exact rfl; exact rfl) | ((with_reducible apply RS.assign); exact rfl; exact rfl; exact rfl) | ((with_reducible apply RS.pickF); exact rfl; exact rfl; exact rfl; exact rfl) | ((with_reducible apply RS.cmpT); exact rfl; exact rfl; exact rfl; exact rfl; (simp only [cmpP]; omega)) | ((with_reducible apply RS.cmpF); exact rfl; exact rfl; exact rfl; exact rfl; (simp only [cmpN]; omega)) | ((with_reducible apply RS.cmpC); exact rfl; exact rfl; exact rfl; exact rfl; exact rfl) | ((with_reducible apply RS.bin); exact rfl; exact rfl; exact rfl; exact rfl; exact rfl) | ((with_reducible apply RS.fieldAddr); exact rfl; exact rfl; exact rfl) | ((with_reducible apply RS.load1); exact rfl; exact rfl; exact rfl; exact rfl; exact rfl; exact rfl) | ((with_reducible apply RS.nil); exact mixed; kernel_rfl) | ((with_reducible apply W.seq)) | ((with_reducible apply W.reg); kernel_rfl) | ((with_reducible apply W.block)) | ((with_reducible apply W.ret)) | ((with_reducible apply W.skip)) | ((with_reducible apply W.condT); kernel_rfl; exact rfl) | ((with_reducible apply W.condF); kernel_rfl; exact rfl) | ((with_reducible apply thenK_n)) | ((with_reducible apply thenK_r)) | ((with_reducible apply blockK_n))))
  · have hf : ¬ (stepS s).fin = 0 := by simpa using ‹(!(stepS s).fin == 0) = true›
    simp only [if_neg hf]
    rw [show ((stepS s).fin == 0) = false by simpa using hf]
    exact endsK_ret _ (.cons (.tmp rfl) .nil) (by (refine AtE.mk [0, 1, 2, 3, 4, 5, 6, 7] rfl rfl rfl ?_ ?_ rfl <;> (repeat' (first | exact trivial | exact rfl | exact fr_set List.length_set | apply And.intro)); done))
  all_goals
    have hf : (stepS s).fin = 0 := by simpa using ‹(!(stepS s).fin == 0) = false›
    simp only [if_pos hf]
    unfold setReg
    first
      | rw [if_pos ‹x.dst ≥ 0›]; exact endsK_ret _ (.cons (.tmp rfl) .nil) (by (refine AtE.mk [0, 1, 2, 3, 4, 5, 6, 7] rfl rfl rfl ?_ ?_ rfl <;> (repeat' (first | exact trivial | exact rfl | exact fr_set List.length_set | apply And.intro)); done))
      | rw [if_neg ‹¬ x.dst ≥ 0›]; exact endsK_ret _ (.cons (.tmp rfl) .nil) (by (refine AtE.mk [0, 1, 2, 3, 4, 5, 6, 7] rfl rfl rfl ?_ ?_ rfl <;> (repeat' (first | exact trivial | exact rfl | exact fr_set List.length_set | apply And.intro)); done))
end Go.Proofs.Ytjhloakacicdiaa
namespace Go.Proofs.Ytjhloakacicdiaa
open Go.AH
attribute [local irreducible] W RS
set_option maxHeartbeats 4000000 in
set_option maxRecDepth 100000 in
theorem insH_te (B : Hp) (pb fb fo : Nat) (hpb : pb < B.n) (hfb : fb < B.n) (s : RunS) (hst : 0 ≤ s.steps ∧ s.steps ≤ 1000000000) (regs at_ : List Int) (hrl : regs.length ≤ 1000000000) (x : InsS) (xb xo : Nat) (xcs : List Value) (xe : TypeId) (A : Option Addr) (c : Nat) (hX : B.m xb = some ⟨⟨xcs⟩, xe⟩) (hXn : xb < B.n) (hXl : xo + 12 ≤ xcs.length) (hXv : takeV xo 12 xcs = insC x A c) (hop : x.op = 24) (a0 : Int) (al : List Int) (hae : at_ = a0 :: al) (hr0 : 0 ≤ x.ref) (hil : x.ref < al.length + 1) (v : Int) (hat : (rowC intW (a0 :: al))[0 + x.ref.toNat * 1]? = some (.int .i64 v)) (hdst : x.dst < regs.length) :
    TE Try.prog 60 B 8 [0, 3, 4, 5, 6] (fun π => [.pointer (some ⟨π 0, 0, none⟩), .pointer (some ⟨π 5, 0, none⟩), .pointer (some ⟨xb, xo, none⟩)]) (frL pb fb fo s regs at_) (.bool (((stepS s) : RunS).fin == 0)) (frL pb fb fo (stepS s) (if (stepS s).fin = 0 then setReg regs x.dst (i64 (v + x.off)) else regs) at_) := by
  have htw : twoS x.op = false := by rw [hop]; rfl
  subst hae
  refine TE.intro (fn := Try.f60) (c := (Try.f60.body.getD .skip)) Try.func60 (by kernel_rfl) Try.ntmps60 (fun π => by kernel_rfl) (fun π => ⟨⟨_, rfl⟩, ⟨_, rfl⟩, ⟨_, rfl⟩, ⟨_, rfl⟩, ⟨_, rfl⟩, trivial⟩) (fr_par _ _ _ hpb hfb (by omega)) (by simp) fun π => ?_
  conv => arg 2; whnf
  repeat (first | ((with_reducible apply (RS.callO (vs := []) [0, 1, 2, 3, 4] 0)); exact rfl; exact rfl; exact step_to B pb hpb s hst; exact rfl; exact rfl; exact ⟨rfl, rfl, rfl, rfl, rfl, trivial⟩; exact step_fresh _ _ _) | ((with_reducible apply RS.move); exact rfl; exact rfl; exact rfl) | ((with_reducible apply RS.assign); exact rfl; exact rfl; exact rfl) | ((with_reducible apply RS.not); exact rfl; exact rfl; exact rfl) | ((with_reducible apply RS.nil); exact mixed; kernel_rfl) | ((with_reducible apply W.seq)) | ((with_reducible apply W.reg); kernel_rfl) | ((with_reducible apply thenK_n)))
  repeat' ((first | (((with_reducible apply RS.splitD); exact rfl; exact rfl) <;> intro _) | ((((with_reducible apply RS.splitG); exact rfl; exact rfl) <;> intro _) <;> (fail_if_success (exact absurd ‹true = false› (by decide))) <;> (fail_if_success (exact absurd ‹false = true› (by decide)))) | (((with_reducible apply W.condD); exact rfl) <;> intro _) | ((((with_reducible apply W.cond); exact rfl) <;> intro _) <;> (fail_if_success (exact absurd ‹true = false› (by decide))) <;> (fail_if_success (exact absurd ‹false = true› (by decide))))) <;> repeat (first | ((with_reducible apply RS.callR true []); exact rfl; exact rfl; exact rfl; exact fun H hH => (show TF _ _ _ H (.bool false) H by rw [← htw]; exact two_tf x.op H); exact Nm_free (by simp)) | ((with_reducible apply RS.indexAddrS); exact rfl; exact rfl; exact rfl; exact rfl; exact (Int.toNat_of_nonneg (by omega)).symm; omega) | ((with_reducible apply RS.store); exact rfl; exact rfl; exact rfl; exact rfl; exact rfl; (rw [show (intsC regs).length = regs.length from List.length_map ..]; omega); exact rfl; exact rfl; exact setL_ints _ _ _) | ((with_reducible apply RS.callR false [0]); exact rfl; exact rfl; exact rfl; exact fun H hH => ok_tf _ _ _ H (hH.l 0 rfl (by simp)) rfl; exact Nm_free (by simp)) | ((with_reducible apply RS.load1B); exact rfl; exact rfl; exact rfl; exact hX; exact hXn; (first | exact take_nth (j := 0) hXv rfl | exact take_nth (j := 1) hXv rfl | exact take_nth (j := 6) hXv rfl | exact take_nth (j := 9) hXv rfl | exact take_nth (j := 7) hXv rfl | exact take_nth (j := 10) hXv rfl)) | ((with_reducible apply RS.loadNB); exact rfl; exact rfl; exact rfl; exact hX; exact hXn; omega; (first | exact takeV_sub (j := 2) (n := 2) hXv (by omega) | exact takeV_sub (j := 4) (n := 2) hXv (by omega))) | ((with_reducible apply RS.callR false [5, 6]); exact rfl; exact rfl; exact rfl; exact fun H hH => arg_tf x.a regs _ _ _ H hrl (hH.l 5 rfl (by simp)) rfl (hH.l 6 rfl (by simp)); exact Nm_free (by simp)) | ((with_reducible apply RS.callR false [5, 6]); exact rfl; exact rfl; exact rfl; exact fun H hH => arg_tf x.b regs _ _ _ H hrl (hH.l 5 rfl (by simp)) rfl (hH.l 6 rfl (by simp)); exact Nm_free (by simp)) | ((with_reducible apply RS.load1At); exact rfl; exact rfl; exact rfl; exact rfl; exact rfl; exact hat) | ((with_reducible apply RS.nilCheck); exact rfl; exact rfl; exact rfl) | ((with_reducible apply RS.move); exact rfl; exact rfl; exact rfl) | ((with_reducible apply RS.assign); exact rfl; exact rfl; exact rfl) | ((with_reducible apply RS.pickF); exact rfl; exact rfl; exact rfl; exact rfl) | ((with_reducible apply RS.cmpT); exact rfl; exact rfl; exact rfl; exact rfl; (simp only [cmpP]; omega)) | ((with_reducible apply RS.cmpF); exact rfl; exact rfl; exact rfl; exact rfl; (simp only [cmpN]; omega)) | ((with_reducible apply RS.cmpC); exact rfl; exact rfl; exact rfl; exact rfl; exact rfl) | ((with_reducible apply RS.bin); exact rfl; exact rfl; exact rfl; exact rfl; exact rfl) | ((with_reducible apply RS.fieldAddr); exact rfl; exact rfl; exact rfl) | ((with_reducible apply RS.load1); exact rfl; exact rfl; exact rfl; exact rfl; exact rfl; exact rfl) | ((with_reducible apply RS.nil); exact mixed; kernel_rfl) | ((with_reducible apply W.seq)) | ((with_reducible apply W.reg); kernel_rfl) | ((with_reducible apply W.block)) | ((with_reducible apply W.ret)) | ((with_reducible apply W.skip)) | ((with_reducible apply W.condT); kernel_rfl; exact rfl) | ((with_reducible apply W.condF); kernel_rfl; exact rfl) | ((with_reducible apply thenK_n)) | ((with_reducible apply thenK_r)) | ((with_reducible apply blockK_n))))
  · have hf : ¬ (stepS s).fin = 0 := by simpa using ‹(!(stepS s).fin == 0) = true›
    simp only [if_neg hf]
    rw [show ((stepS s).fin == 0) = false by simpa using hf]
    exact endsK_ret _ (.cons (.tmp rfl) .nil) (by (refine AtE.mk [0, 1, 2, 3, 4, 5, 6, 7] rfl rfl rfl ?_ ?_ rfl <;> (repeat' (first | exact trivial | exact rfl | exact fr_set List.length_set | apply And.intro)); done))
  all_goals
    have hf : (stepS s).fin = 0 := by simpa using ‹(!(stepS s).fin == 0) = false›
    simp only [if_pos hf]
    unfold setReg
    first
      | rw [if_pos ‹x.dst ≥ 0›]; exact endsK_ret _ (.cons (.tmp rfl) .nil) (by (refine AtE.mk [0, 1, 2, 3, 4, 5, 6, 7] rfl rfl rfl ?_ ?_ rfl <;> (repeat' (first | exact trivial | exact rfl | exact fr_set List.length_set | apply And.intro)); done))
      | rw [if_neg ‹¬ x.dst ≥ 0›]; exact endsK_ret _ (.cons (.tmp rfl) .nil) (by (refine AtE.mk [0, 1, 2, 3, 4, 5, 6, 7] rfl rfl rfl ?_ ?_ rfl <;> (repeat' (first | exact trivial | exact rfl | exact fr_set List.length_set | apply And.intro)); done))
end Go.Proofs.Ytjhloakacicdiaa
namespace Go.Proofs.Ytjhloakacicdiaa
open Go.AH
attribute [local irreducible] W RS
instance (s : RunS) (at_ : Int) (n : Nat) : Decidable (inData s at_ n) := by unfold inData; infer_instance
instance (s : RunS) (at_ : Int) (n : Nat) : Decidable (inStack s at_ n) := by unfold inStack; infer_instance
def loadS (s : RunS) (at_ : Int) (n : Nat) (sg : Bool) : Int × RunS :=
  if inData s at_ n then (widenS (loadV s.data (at_ - 65536).toNat n) n sg, leakS s ⟨2, at_, 0⟩)
  else if inStack s at_ n then (widenS (loadV s.stack (at_ - (134217728 - (s.stack.length : Int))).toNat n) n sg, leakS s ⟨2, at_, 0⟩)
  else (widenS 0 n sg, stopS (leakS s ⟨2, at_, 0⟩) 40)
def storeS (s : RunS) (at_ : Int) (n : Nat) (v : Int) : RunS :=
  if inData s at_ n then { leakS s ⟨3, at_, 0⟩ with data := storeV s.data (at_ - 65536).toNat v n }
  else if inStack s at_ n then { leakS s ⟨3, at_, 0⟩ with stack := storeV s.stack (at_ - (134217728 - (s.stack.length : Int))).toNat v n }
  else stopS (leakS s ⟨3, at_, 0⟩) 40
theorem stopS_out (s : RunS) (e : Int) : (stopS s e).out = s.out := by unfold stopS; split <;> rfl
theorem loadS_out (s : RunS) (at_ : Int) (n : Nat) (sg : Bool) : (loadS s at_ n sg).2.out = s.out := by
  unfold loadS
  split
  · rfl
  · split
    · rfl
    · exact stopS_out _ _
theorem storeS_out (s : RunS) (at_ : Int) (n : Nat) (v : Int) : (storeS s at_ n v).out = s.out := by
  unfold storeS
  split
  · rfl
  · split
    · rfl
    · exact stopS_out _ _
theorem lk_fresh (pb : Nat) (s s' : RunS) (h : s'.out = s.out) (π : Nat → Nat) : FreshL (runL pb s π) (lkL pb s' π) 5 := by
  refine ⟨.inr ⟨_, rfl⟩, .inr ⟨_, rfl⟩, .inl rfl, ?_, .inr ⟨_, rfl⟩, trivial⟩
  show rowBk intW 2 s'.out = none ∨ ∃ b, rowBk intW 2 s.out = some b
  rw [h]; exact row_fresh _ _ _
theorem load_to (B : Hp) (pb : Nat) (hpb : pb < B.n) (s : RunS) (at_ : Int) (hs : (leakS s ⟨2, at_, 0⟩).ok) (hat : -9223372036854775808 ≤ at_ ∧ at_ ≤ 9223372036854775807) (n : Nat) (hn : 1 ≤ n ∧ n ≤ 8) (z : Int) (hz : z = n) (sg : Bool) : TO Try.prog 69 B 5 1 (fun π => [.pointer (some ⟨π 0, 0, none⟩), .int .i64 at_, .int .i64 z, .bool sg]) (runL pb s) (fun π => .int .i64 (loadS s at_ n sg).1) (lkL pb (loadS s at_ n sg).2) := by
  subst hz
  unfold loadS
  split
  · exact loadD_to B pb hpb s at_ hs n hn sg ‹_›
  · split
    · exact loadK_to B pb hpb s at_ hs n hn sg ‹_› ‹_›
    · exact loadN_to B pb hpb s at_ hs hat n hn sg ‹_› ‹_›
theorem store_to (B : Hp) (pb : Nat) (hpb : pb < B.n) (s : RunS) (at_ : Int) (hs : (leakS s ⟨3, at_, 0⟩).ok) (hat : -9223372036854775808 ≤ at_ ∧ at_ ≤ 9223372036854775807) (n : Nat) (hn : 1 ≤ n ∧ n ≤ 8) (z : Int) (hz : z = n) (v : Int) : TO Try.prog 70 B 5 1 (fun π => [.pointer (some ⟨π 0, 0, none⟩), .int .i64 at_, .int .i64 z, .int .i64 v]) (runL pb s) (fun π => .tuple #[]) (lkL pb (storeS s at_ n v)) := by
  subst hz
  unfold storeS
  split
  · exact storeD_to B pb hpb s at_ hs n hn v ‹_›
  · split
    · exact storeK_to B pb hpb s at_ hs n hn v ‹_› ‹_›
    · exact storeN_to B pb hpb s at_ hs hat n hn v ‹_› ‹_›
theorem wrap64_in (n : Int) : -9223372036854775808 ≤ IntKind.i64.wrap n ∧ IntKind.i64.wrap n ≤ 9223372036854775807 := by
  simp only [IntKind.wrap, IntKind.signed, IntKind.bits]; simp; omega
set_option maxHeartbeats 4000000 in
set_option maxRecDepth 100000 in
theorem insI_te (B : Hp) (pb fb fo : Nat) (hpb : pb < B.n) (hfb : fb < B.n) (s : RunS) (hst : 0 ≤ s.steps ∧ s.steps ≤ 1000000000) (regs at_ : List Int) (hrl : regs.length ≤ 1000000000) (x : InsS) (xb xo : Nat) (xcs : List Value) (xe : TypeId) (A : Option Addr) (c : Nat) (hX : B.m xb = some ⟨⟨xcs⟩, xe⟩) (hXn : xb < B.n) (hXl : xo + 12 ≤ xcs.length) (hXv : takeV xo 12 xcs = insC x A c) (hop : x.op = 26) (n : Nat) (hn : 1 ≤ n ∧ n ≤ 8) (hz : x.size = (n : Int)) (hs : (leakS (stepS s) ⟨2, i64 (argS regs x.a + x.off), 0⟩).ok) (hdst : x.dst < regs.length) :
    TE Try.prog 60 B 8 [0, 3, 4, 5, 6] (fun π => [.pointer (some ⟨π 0, 0, none⟩), .pointer (some ⟨π 5, 0, none⟩), .pointer (some ⟨xb, xo, none⟩)]) (frL pb fb fo s regs at_) (.bool (((if (stepS s).fin = 0 then (loadS (stepS s) (i64 (argS regs x.a + x.off)) n x.signed).2 else stepS s) : RunS).fin == 0)) (frL pb fb fo (if (stepS s).fin = 0 then (loadS (stepS s) (i64 (argS regs x.a + x.off)) n x.signed).2 else stepS s) (if (stepS s).fin = 0 then setReg regs x.dst (loadS (stepS s) (i64 (argS regs x.a + x.off)) n x.signed).1 else regs) at_) := by
  have htw : twoS x.op = false := by rw [hop]; rfl
  refine TE.intro (fn := Try.f60) (c := (Try.f60.body.getD .skip)) Try.func60 (by kernel_rfl) Try.ntmps60 (fun π => by kernel_rfl) (fun π => ⟨⟨_, rfl⟩, ⟨_, rfl⟩, ⟨_, rfl⟩, ⟨_, rfl⟩, ⟨_, rfl⟩, trivial⟩) (fr_par _ _ _ hpb hfb (by omega)) (by simp) fun π => ?_
  conv => arg 2; whnf
  repeat (first | ((with_reducible apply (RS.callO (vs := []) [0, 1, 2, 3, 4] 0)); exact rfl; exact rfl; exact step_to B pb hpb s hst; exact rfl; exact rfl; exact ⟨rfl, rfl, rfl, rfl, rfl, trivial⟩; exact step_fresh _ _ _) | ((with_reducible apply RS.move); exact rfl; exact rfl; exact rfl) | ((with_reducible apply RS.assign); exact rfl; exact rfl; exact rfl) | ((with_reducible apply RS.not); exact rfl; exact rfl; exact rfl) | ((with_reducible apply RS.nil); exact mixed; kernel_rfl) | ((with_reducible apply W.seq)) | ((with_reducible apply W.reg); kernel_rfl) | ((with_reducible apply thenK_n)))
  repeat' ((first | (((with_reducible apply RS.splitD); exact rfl; exact rfl) <;> intro _) | ((((with_reducible apply RS.splitG); exact rfl; exact rfl) <;> intro _) <;> (fail_if_success (exact absurd ‹true = false› (by decide))) <;> (fail_if_success (exact absurd ‹false = true› (by decide)))) | (((with_reducible apply W.condD); exact rfl) <;> intro _) | ((((with_reducible apply W.cond); exact rfl) <;> intro _) <;> (fail_if_success (exact absurd ‹true = false› (by decide))) <;> (fail_if_success (exact absurd ‹false = true› (by decide))))) <;> repeat (first | ((with_reducible apply RS.callR true []); exact rfl; exact rfl; exact rfl; exact fun H hH => (show TF _ _ _ H (.bool false) H by rw [← htw]; exact two_tf x.op H); exact Nm_free (by simp)) | ((with_reducible apply RS.indexAddrS); exact rfl; exact rfl; exact rfl; exact rfl; exact (Int.toNat_of_nonneg (by omega)).symm; omega) | ((with_reducible apply RS.store); exact rfl; exact rfl; exact rfl; exact rfl; exact rfl; (rw [show (intsC regs).length = regs.length from List.length_map ..]; omega); exact rfl; exact rfl; exact setL_ints _ _ _) | ((with_reducible apply RS.callR false [0]); exact rfl; exact rfl; exact rfl; exact fun H hH => ok_tf _ _ _ H (hH.l 0 rfl (by simp)) rfl; exact Nm_free (by simp)) | ((with_reducible apply RS.load1B); exact rfl; exact rfl; exact rfl; exact hX; exact hXn; (first | exact take_nth (j := 0) hXv rfl | exact take_nth (j := 1) hXv rfl | exact take_nth (j := 6) hXv rfl | exact take_nth (j := 9) hXv rfl | exact take_nth (j := 7) hXv rfl | exact take_nth (j := 10) hXv rfl)) | ((with_reducible apply RS.loadNB); exact rfl; exact rfl; exact rfl; exact hX; exact hXn; omega; (first | exact takeV_sub (j := 2) (n := 2) hXv (by omega) | exact takeV_sub (j := 4) (n := 2) hXv (by omega))) | ((with_reducible apply RS.callR false [5, 6]); exact rfl; exact rfl; exact rfl; exact fun H hH => arg_tf x.a regs _ _ _ H hrl (hH.l 5 rfl (by simp)) rfl (hH.l 6 rfl (by simp)); exact Nm_free (by simp)) | ((with_reducible apply RS.callR false [5, 6]); exact rfl; exact rfl; exact rfl; exact fun H hH => arg_tf x.b regs _ _ _ H hrl (hH.l 5 rfl (by simp)) rfl (hH.l 6 rfl (by simp)); exact Nm_free (by simp)) | ((with_reducible apply (RS.callO (vs := []) [0, 1, 2, 3, 4] 1)); exact rfl; exact rfl; exact load_to B pb hpb (stepS s) (i64 (argS regs x.a + x.off)) hs (wrap64_in _) n hn x.size hz x.signed; exact rfl; exact rfl; exact ⟨rfl, rfl, rfl, rfl, rfl, trivial⟩; exact lk_fresh _ _ _ (loadS_out _ _ _ _) _) | ((with_reducible apply RS.nilCheck); exact rfl; exact rfl; exact rfl) | ((with_reducible apply RS.move); exact rfl; exact rfl; exact rfl) | ((with_reducible apply RS.assign); exact rfl; exact rfl; exact rfl) | ((with_reducible apply RS.pickF); exact rfl; exact rfl; exact rfl; exact rfl) | ((with_reducible apply RS.cmpT); exact rfl; exact rfl; exact rfl; exact rfl; (simp only [cmpP]; omega)) | ((with_reducible apply RS.cmpF); exact rfl; exact rfl; exact rfl; exact rfl; (simp only [cmpN]; omega)) | ((with_reducible apply RS.cmpC); exact rfl; exact rfl; exact rfl; exact rfl; exact rfl) | ((with_reducible apply RS.bin); exact rfl; exact rfl; exact rfl; exact rfl; exact rfl) | ((with_reducible apply RS.fieldAddr); exact rfl; exact rfl; exact rfl) | ((with_reducible apply RS.load1); exact rfl; exact rfl; exact rfl; exact rfl; exact rfl; exact rfl) | ((with_reducible apply RS.nil); exact mixed; kernel_rfl) | ((with_reducible apply W.seq)) | ((with_reducible apply W.reg); kernel_rfl) | ((with_reducible apply W.block)) | ((with_reducible apply W.ret)) | ((with_reducible apply W.skip)) | ((with_reducible apply W.condT); kernel_rfl; exact rfl) | ((with_reducible apply W.condF); kernel_rfl; exact rfl) | ((with_reducible apply thenK_n)) | ((with_reducible apply thenK_r)) | ((with_reducible apply blockK_n))))
  · have hf : ¬ (stepS s).fin = 0 := by simpa using ‹(!(stepS s).fin == 0) = true›
    simp only [if_neg hf]
    rw [show ((stepS s).fin == 0) = false by simpa using hf]
    exact endsK_ret _ (.cons (.tmp rfl) .nil) (by (refine AtE.mk [0, 1, 2, 3, 4, 5, 6, 7] rfl rfl rfl ?_ ?_ rfl <;> (repeat' (first | exact trivial | exact rfl | exact fr_set List.length_set | apply And.intro)); done))
  all_goals
    have hf : (stepS s).fin = 0 := by simpa using ‹(!(stepS s).fin == 0) = false›
    simp only [if_pos hf]
    unfold setReg
    first
      | rw [if_pos ‹x.dst ≥ 0›]; exact endsK_ret _ (.cons (.tmp rfl) .nil) (by (refine AtE.mk [0, 1, 8, 3, 4, 5, 6, 7] rfl rfl rfl ?_ ?_ rfl <;> (repeat' (first | exact trivial | exact rfl | exact fr_set List.length_set | apply And.intro)); done))
      | rw [if_neg ‹¬ x.dst ≥ 0›]; exact endsK_ret _ (.cons (.tmp rfl) .nil) (by (refine AtE.mk [0, 1, 8, 3, 4, 5, 6, 7] rfl rfl rfl ?_ ?_ rfl <;> (repeat' (first | exact trivial | exact rfl | exact fr_set List.length_set | apply And.intro)); done))
set_option maxHeartbeats 4000000 in
set_option maxRecDepth 100000 in
theorem insJ_te (B : Hp) (pb fb fo : Nat) (hpb : pb < B.n) (hfb : fb < B.n) (s : RunS) (hst : 0 ≤ s.steps ∧ s.steps ≤ 1000000000) (regs at_ : List Int) (hrl : regs.length ≤ 1000000000) (x : InsS) (xb xo : Nat) (xcs : List Value) (xe : TypeId) (A : Option Addr) (c : Nat) (hX : B.m xb = some ⟨⟨xcs⟩, xe⟩) (hXn : xb < B.n) (hXl : xo + 12 ≤ xcs.length) (hXv : takeV xo 12 xcs = insC x A c) (hop : x.op = 27) (n : Nat) (hn : 1 ≤ n ∧ n ≤ 8) (hz : x.size = (n : Int)) (hs : (leakS (stepS s) ⟨3, i64 (argS regs x.a + x.off), 0⟩).ok) (hdst : x.dst = -1) :
    TE Try.prog 60 B 8 [0, 3, 4, 5, 6] (fun π => [.pointer (some ⟨π 0, 0, none⟩), .pointer (some ⟨π 5, 0, none⟩), .pointer (some ⟨xb, xo, none⟩)]) (frL pb fb fo s regs at_) (.bool (((if (stepS s).fin = 0 then storeS (stepS s) (i64 (argS regs x.a + x.off)) n (argS regs x.b) else stepS s) : RunS).fin == 0)) (frL pb fb fo (if (stepS s).fin = 0 then storeS (stepS s) (i64 (argS regs x.a + x.off)) n (argS regs x.b) else stepS s) (regs) at_) := by
  have htw : twoS x.op = false := by rw [hop]; rfl
  refine TE.intro (fn := Try.f60) (c := (Try.f60.body.getD .skip)) Try.func60 (by kernel_rfl) Try.ntmps60 (fun π => by kernel_rfl) (fun π => ⟨⟨_, rfl⟩, ⟨_, rfl⟩, ⟨_, rfl⟩, ⟨_, rfl⟩, ⟨_, rfl⟩, trivial⟩) (fr_par _ _ _ hpb hfb (by omega)) (by simp) fun π => ?_
  conv => arg 2; whnf
  repeat (first | ((with_reducible apply (RS.callO (vs := []) [0, 1, 2, 3, 4] 0)); exact rfl; exact rfl; exact step_to B pb hpb s hst; exact rfl; exact rfl; exact ⟨rfl, rfl, rfl, rfl, rfl, trivial⟩; exact step_fresh _ _ _) | ((with_reducible apply RS.move); exact rfl; exact rfl; exact rfl) | ((with_reducible apply RS.assign); exact rfl; exact rfl; exact rfl) | ((with_reducible apply RS.not); exact rfl; exact rfl; exact rfl) | ((with_reducible apply RS.nil); exact mixed; kernel_rfl) | ((with_reducible apply W.seq)) | ((with_reducible apply W.reg); kernel_rfl) | ((with_reducible apply thenK_n)))
  repeat' ((first | (((with_reducible apply RS.splitD); exact rfl; exact rfl) <;> intro _) | ((((with_reducible apply RS.splitG); exact rfl; exact rfl) <;> intro _) <;> (fail_if_success (exact absurd ‹true = false› (by decide))) <;> (fail_if_success (exact absurd ‹false = true› (by decide)))) | (((with_reducible apply W.condD); exact rfl) <;> intro _) | ((((with_reducible apply W.cond); exact rfl) <;> intro _) <;> (fail_if_success (exact absurd ‹true = false› (by decide))) <;> (fail_if_success (exact absurd ‹false = true› (by decide))))) <;> repeat (first | ((with_reducible apply RS.callR true []); exact rfl; exact rfl; exact rfl; exact fun H hH => (show TF _ _ _ H (.bool false) H by rw [← htw]; exact two_tf x.op H); exact Nm_free (by simp)) | ((with_reducible apply RS.callR false [0]); exact rfl; exact rfl; exact rfl; exact fun H hH => ok_tf _ _ _ H (hH.l 0 rfl (by simp)) rfl; exact Nm_free (by simp)) | ((with_reducible apply RS.load1B); exact rfl; exact rfl; exact rfl; exact hX; exact hXn; (first | exact take_nth (j := 0) hXv rfl | exact take_nth (j := 1) hXv rfl | exact take_nth (j := 6) hXv rfl | exact take_nth (j := 9) hXv rfl | exact take_nth (j := 7) hXv rfl | exact take_nth (j := 10) hXv rfl)) | ((with_reducible apply RS.loadNB); exact rfl; exact rfl; exact rfl; exact hX; exact hXn; omega; (first | exact takeV_sub (j := 2) (n := 2) hXv (by omega) | exact takeV_sub (j := 4) (n := 2) hXv (by omega))) | ((with_reducible apply RS.callR false [5, 6]); exact rfl; exact rfl; exact rfl; exact fun H hH => arg_tf x.a regs _ _ _ H hrl (hH.l 5 rfl (by simp)) rfl (hH.l 6 rfl (by simp)); exact Nm_free (by simp)) | ((with_reducible apply RS.callR false [5, 6]); exact rfl; exact rfl; exact rfl; exact fun H hH => arg_tf x.b regs _ _ _ H hrl (hH.l 5 rfl (by simp)) rfl (hH.l 6 rfl (by simp)); exact Nm_free (by simp)) | ((with_reducible apply (RS.callO (vs := []) [0, 1, 2, 3, 4] 1)); exact rfl; exact rfl; exact store_to B pb hpb (stepS s) (i64 (argS regs x.a + x.off)) hs (wrap64_in _) n hn x.size hz (argS regs x.b); exact rfl; exact rfl; exact ⟨rfl, rfl, rfl, rfl, rfl, trivial⟩; exact lk_fresh _ _ _ (storeS_out _ _ _ _) _) | ((with_reducible apply RS.nilCheck); exact rfl; exact rfl; exact rfl) | ((with_reducible apply RS.move); exact rfl; exact rfl; exact rfl) | ((with_reducible apply RS.assign); exact rfl; exact rfl; exact rfl) | ((with_reducible apply RS.pickF); exact rfl; exact rfl; exact rfl; exact rfl) | ((with_reducible apply RS.cmpT); exact rfl; exact rfl; exact rfl; exact rfl; (simp only [cmpP]; omega)) | ((with_reducible apply RS.cmpF); exact rfl; exact rfl; exact rfl; exact rfl; (simp only [cmpN]; omega)) | ((with_reducible apply RS.bin); exact rfl; exact rfl; exact rfl; exact rfl; exact rfl) | ((with_reducible apply RS.fieldAddr); exact rfl; exact rfl; exact rfl) | ((with_reducible apply RS.nil); exact mixed; kernel_rfl) | ((with_reducible apply W.seq)) | ((with_reducible apply W.reg); kernel_rfl) | ((with_reducible apply W.block)) | ((with_reducible apply W.ret)) | ((with_reducible apply W.skip)) | ((with_reducible apply W.condT); kernel_rfl; exact rfl) | ((with_reducible apply W.condF); kernel_rfl; exact rfl) | ((with_reducible apply thenK_n)) | ((with_reducible apply thenK_r)) | ((with_reducible apply blockK_n))))
  · have hf : ¬ (stepS s).fin = 0 := by simpa using ‹(!(stepS s).fin == 0) = true›
    simp only [if_neg hf]
    rw [show ((stepS s).fin == 0) = false by simpa using hf]
    exact endsK_ret _ (.cons (.tmp rfl) .nil) (by (refine AtE.mk [0, 1, 2, 3, 4, 5, 6, 7] rfl rfl rfl ?_ ?_ rfl <;> (repeat' (first | exact trivial | exact rfl | exact fr_set List.length_set | apply And.intro)); done))
  all_goals
    have hf : (stepS s).fin = 0 := by simpa using ‹(!(stepS s).fin == 0) = false›
    simp only [if_pos hf]
    exact endsK_ret _ (.cons (.tmp rfl) .nil) (by (refine AtE.mk [0, 1, 8, 3, 4, 5, 6, 7] rfl rfl rfl ?_ ?_ rfl <;> (repeat' (first | exact trivial | exact rfl | exact fr_set List.length_set | apply And.intro)); done))
end Go.Proofs.Ytjhloakacicdiaa
namespace Go.Proofs.Ytjhloakacicdiaa
open Go.AH
attribute [local irreducible] W RS
set_option maxHeartbeats 4000000 in
set_option maxRecDepth 100000 in
theorem insK_te (B : Hp) (pb fb fo : Nat) (hpb : pb < B.n) (hfb : fb < B.n) (s : RunS) (hst : 0 ≤ s.steps ∧ s.steps ≤ 1000000000) (regs at_ : List Int) (hrl : regs.length ≤ 1000000000) (x : InsS) (xb xo : Nat) (xcs : List Value) (xe : TypeId) (A : Option Addr) (c : Nat) (hX : B.m xb = some ⟨⟨xcs⟩, xe⟩) (hXn : xb < B.n) (hXl : xo + 12 ≤ xcs.length) (hXv : takeV xo 12 xcs = insC x A c) (hop : x.op = 30) (ho : ¬ (stepS s).out.length = 10000) (hol : (stepS s).out.length ≤ 100000000) (hdst : x.dst = -1) :
    TE Try.prog 60 B 8 [0, 3, 4, 5, 6] (fun π => [.pointer (some ⟨π 0, 0, none⟩), .pointer (some ⟨π 5, 0, none⟩), .pointer (some ⟨xb, xo, none⟩)]) (frL pb fb fo s regs at_) (.bool (((if (stepS s).fin = 0 then { stepS s with out := argS regs x.a :: (stepS s).out } else stepS s) : RunS).fin == 0)) (frL pb fb fo (if (stepS s).fin = 0 then { stepS s with out := argS regs x.a :: (stepS s).out } else stepS s) (regs) at_) := by
  have htw : twoS x.op = false := by rw [hop]; rfl
  refine TE.intro (fn := Try.f60) (c := (Try.f60.body.getD .skip)) Try.func60 (by kernel_rfl) Try.ntmps60 (fun π => by kernel_rfl) (fun π => ⟨⟨_, rfl⟩, ⟨_, rfl⟩, ⟨_, rfl⟩, ⟨_, rfl⟩, ⟨_, rfl⟩, trivial⟩) (fr_par _ _ _ hpb hfb (by omega)) (by simp) fun π => ?_
  conv => arg 2; whnf
  repeat (first | ((with_reducible apply (RS.callO (vs := []) [0, 1, 2, 3, 4] 0)); exact rfl; exact rfl; exact step_to B pb hpb s hst; exact rfl; exact rfl; exact ⟨rfl, rfl, rfl, rfl, rfl, trivial⟩; exact step_fresh _ _ _) | ((with_reducible apply RS.move); exact rfl; exact rfl; exact rfl) | ((with_reducible apply RS.assign); exact rfl; exact rfl; exact rfl) | ((with_reducible apply RS.not); exact rfl; exact rfl; exact rfl) | ((with_reducible apply RS.nil); exact mixed; kernel_rfl) | ((with_reducible apply W.seq)) | ((with_reducible apply W.reg); kernel_rfl) | ((with_reducible apply thenK_n)))
  repeat' ((first | (((with_reducible apply RS.splitD); exact rfl; exact rfl) <;> intro _) | ((((with_reducible apply RS.splitG); exact rfl; exact rfl) <;> intro _) <;> (fail_if_success (exact absurd ‹true = false› (by decide))) <;> (fail_if_success (exact absurd ‹false = true› (by decide)))) | (((with_reducible apply W.condD); exact rfl) <;> intro _) | ((((with_reducible apply W.cond); exact rfl) <;> intro _) <;> (fail_if_success (exact absurd ‹true = false› (by decide))) <;> (fail_if_success (exact absurd ‹false = true› (by decide))))) <;> repeat (first | ((with_reducible apply RS.callR true []); exact rfl; exact rfl; exact rfl; exact fun H hH => (show TF _ _ _ H (.bool false) H by rw [← htw]; exact two_tf x.op H); exact Nm_free (by simp)) | ((with_reducible apply RS.callR false [0]); exact rfl; exact rfl; exact rfl; exact fun H hH => ok_tf _ _ _ H (hH.l 0 rfl (by simp)) rfl; exact Nm_free (by simp)) | ((with_reducible apply RS.load1B); exact rfl; exact rfl; exact rfl; exact hX; exact hXn; (first | exact take_nth (j := 0) hXv rfl | exact take_nth (j := 1) hXv rfl | exact take_nth (j := 6) hXv rfl | exact take_nth (j := 9) hXv rfl | exact take_nth (j := 7) hXv rfl | exact take_nth (j := 10) hXv rfl)) | ((with_reducible apply RS.loadNB); exact rfl; exact rfl; exact rfl; exact hX; exact hXn; omega; (first | exact takeV_sub (j := 2) (n := 2) hXv (by omega) | exact takeV_sub (j := 4) (n := 2) hXv (by omega))) | ((with_reducible apply RS.callR false [5, 6]); exact rfl; exact rfl; exact rfl; exact fun H hH => arg_tf x.a regs _ _ _ H hrl (hH.l 5 rfl (by simp)) rfl (hH.l 6 rfl (by simp)); exact Nm_free (by simp)) | ((with_reducible apply RS.callR false [5, 6]); exact rfl; exact rfl; exact rfl; exact fun H hH => arg_tf x.b regs _ _ _ H hrl (hH.l 5 rfl (by simp)) rfl (hH.l 6 rfl (by simp)); exact Nm_free (by simp)) | ((with_reducible apply (RS.appendRow (w := intW) (l0 := (stepS s).out) (q := argS regs x.a))); exact rfl; exact rfl; exact rfl; exact rfl; exact rfl; exact rfl; exact rfl; exact rfl; exact rfl; exact rfl; exact rfl; exact Nat.le_of_ble_eq_true rfl; exact fun _ => rfl; exact rfl; omega; omega) | ((with_reducible apply RS.buildSlice); exact rfl; exact rfl; exact rfl; exact rfl; exact rfl; exact rfl; exact rfl; exact rfl) | ((with_reducible apply RS.lenRow); exact rfl; exact rfl; exact rfl) | ((with_reducible apply RS.nilCheck); exact rfl; exact rfl; exact rfl) | ((with_reducible apply RS.move); exact rfl; exact rfl; exact rfl) | ((with_reducible apply RS.assign); exact rfl; exact rfl; exact rfl) | ((with_reducible apply RS.pickF); exact rfl; exact rfl; exact rfl; exact rfl) | ((with_reducible apply RS.cmpT); exact rfl; exact rfl; exact rfl; exact rfl; (simp only [cmpP]; omega)) | ((with_reducible apply RS.cmpF); exact rfl; exact rfl; exact rfl; exact rfl; (simp only [cmpN]; omega)) | ((with_reducible apply RS.fieldAddr); exact rfl; exact rfl; exact rfl) | ((with_reducible apply RS.load1); exact rfl; exact rfl; exact rfl; exact rfl; exact rfl; exact rfl) | ((with_reducible apply RS.store); exact rfl; exact rfl; exact rfl; exact rfl; exact rfl; exact Nat.le_of_ble_eq_true rfl; exact rfl; exact rfl; exact rfl) | ((with_reducible apply RS.nil); exact mixed; kernel_rfl) | ((with_reducible apply W.seq)) | ((with_reducible apply W.reg); kernel_rfl) | ((with_reducible apply W.block)) | ((with_reducible apply W.ret)) | ((with_reducible apply W.skip)) | ((with_reducible apply W.condT); kernel_rfl; exact rfl) | ((with_reducible apply W.condF); kernel_rfl; exact rfl) | ((with_reducible apply thenK_n)) | ((with_reducible apply thenK_r)) | ((with_reducible apply blockK_n))))
  · have hf : ¬ (stepS s).fin = 0 := by simpa using ‹(!(stepS s).fin == 0) = true›
    simp only [if_neg hf]
    rw [show ((stepS s).fin == 0) = false by simpa using hf]
    exact endsK_ret _ (.cons (.tmp rfl) .nil) (by (refine AtE.mk [0, 1, 2, 3, 4, 5, 6, 7] rfl rfl rfl ?_ ?_ rfl <;> (repeat' (first | exact trivial | exact rfl | exact fr_set List.length_set | apply And.intro)); done))
  all_goals
    have hf : (stepS s).fin = 0 := by simpa using ‹(!(stepS s).fin == 0) = false›
    simp only [if_pos hf]
    exact endsK_ret _ (.cons (.tmp rfl) .nil) (by (refine AtE.mk [0, 9, 2, 3, 4, 5, 6, 7] rfl rfl rfl ?_ ?_ rfl <;> (repeat' (first | exact trivial | exact rfl | exact fr_set List.length_set | apply And.intro)); done))
set_option maxHeartbeats 4000000 in
set_option maxRecDepth 100000 in
theorem insL_te (B : Hp) (pb fb fo : Nat) (hpb : pb < B.n) (hfb : fb < B.n) (s : RunS) (hst : 0 ≤ s.steps ∧ s.steps ≤ 1000000000) (regs at_ : List Int) (hrl : regs.length ≤ 1000000000) (x : InsS) (xb xo : Nat) (xcs : List Value) (xe : TypeId) (A : Option Addr) (c : Nat) (hX : B.m xb = some ⟨⟨xcs⟩, xe⟩) (hXn : xb < B.n) (hXl : xo + 12 ≤ xcs.length) (hXv : takeV xo 12 xcs = insC x A c) (hop : x.op = 30) (ho : (stepS s).out.length = 10000) (hdst : x.dst = -1) :
    TE Try.prog 60 B 8 [0, 3, 4, 5, 6] (fun π => [.pointer (some ⟨π 0, 0, none⟩), .pointer (some ⟨π 5, 0, none⟩), .pointer (some ⟨xb, xo, none⟩)]) (frL pb fb fo s regs at_) (.bool (((if (stepS s).fin = 0 then stopS (stepS s) 45 else stepS s) : RunS).fin == 0)) (frL pb fb fo (if (stepS s).fin = 0 then stopS (stepS s) 45 else stepS s) (regs) at_) := by
  have htw : twoS x.op = false := by rw [hop]; rfl
  refine TE.intro (fn := Try.f60) (c := (Try.f60.body.getD .skip)) Try.func60 (by kernel_rfl) Try.ntmps60 (fun π => by kernel_rfl) (fun π => ⟨⟨_, rfl⟩, ⟨_, rfl⟩, ⟨_, rfl⟩, ⟨_, rfl⟩, ⟨_, rfl⟩, trivial⟩) (fr_par _ _ _ hpb hfb (by omega)) (by simp) fun π => ?_
  conv => arg 2; whnf
  repeat (first | ((with_reducible apply (RS.callO (vs := []) [0, 1, 2, 3, 4] 0)); exact rfl; exact rfl; exact step_to B pb hpb s hst; exact rfl; exact rfl; exact ⟨rfl, rfl, rfl, rfl, rfl, trivial⟩; exact step_fresh _ _ _) | ((with_reducible apply RS.move); exact rfl; exact rfl; exact rfl) | ((with_reducible apply RS.assign); exact rfl; exact rfl; exact rfl) | ((with_reducible apply RS.not); exact rfl; exact rfl; exact rfl) | ((with_reducible apply RS.nil); exact mixed; kernel_rfl) | ((with_reducible apply W.seq)) | ((with_reducible apply W.reg); kernel_rfl) | ((with_reducible apply thenK_n)))
  repeat' ((first | (((with_reducible apply RS.splitD); exact rfl; exact rfl) <;> intro _) | ((((with_reducible apply RS.splitG); exact rfl; exact rfl) <;> intro _) <;> (fail_if_success (exact absurd ‹true = false› (by decide))) <;> (fail_if_success (exact absurd ‹false = true› (by decide)))) | (((with_reducible apply W.condD); exact rfl) <;> intro _) | ((((with_reducible apply W.cond); exact rfl) <;> intro _) <;> (fail_if_success (exact absurd ‹true = false› (by decide))) <;> (fail_if_success (exact absurd ‹false = true› (by decide))))) <;> repeat (first | ((with_reducible apply RS.callR true []); exact rfl; exact rfl; exact rfl; exact fun H hH => (show TF _ _ _ H (.bool false) H by rw [← htw]; exact two_tf x.op H); exact Nm_free (by simp)) | ((with_reducible apply RS.load1B); exact rfl; exact rfl; exact rfl; exact hX; exact hXn; (first | exact take_nth (j := 0) hXv rfl | exact take_nth (j := 1) hXv rfl | exact take_nth (j := 6) hXv rfl | exact take_nth (j := 9) hXv rfl | exact take_nth (j := 7) hXv rfl | exact take_nth (j := 10) hXv rfl)) | ((with_reducible apply RS.loadNB); exact rfl; exact rfl; exact rfl; exact hX; exact hXn; omega; (first | exact takeV_sub (j := 2) (n := 2) hXv (by omega) | exact takeV_sub (j := 4) (n := 2) hXv (by omega))) | ((with_reducible apply RS.callR false [5, 6]); exact rfl; exact rfl; exact rfl; exact fun H hH => arg_tf x.a regs _ _ _ H hrl (hH.l 5 rfl (by simp)) rfl (hH.l 6 rfl (by simp)); exact Nm_free (by simp)) | ((with_reducible apply RS.callR false [5, 6]); exact rfl; exact rfl; exact rfl; exact fun H hH => arg_tf x.b regs _ _ _ H hrl (hH.l 5 rfl (by simp)) rfl (hH.l 6 rfl (by simp)); exact Nm_free (by simp)) | ((with_reducible apply (RS.callO (vs := []) [0, 1, 2, 3, 4] 0)); exact rfl; exact rfl; exact stop_to _ pb hpb (stepS s) 45; exact rfl; exact rfl; exact ⟨rfl, rfl, rfl, rfl, rfl, trivial⟩; exact stop_fresh _ _ _ _) | ((with_reducible apply RS.lenRow); exact rfl; exact rfl; exact rfl) | ((with_reducible apply RS.nilCheck); exact rfl; exact rfl; exact rfl) | ((with_reducible apply RS.move); exact rfl; exact rfl; exact rfl) | ((with_reducible apply RS.assign); exact rfl; exact rfl; exact rfl) | ((with_reducible apply RS.pickF); exact rfl; exact rfl; exact rfl; exact rfl) | ((with_reducible apply RS.cmpT); exact rfl; exact rfl; exact rfl; exact rfl; (simp only [cmpP]; omega)) | ((with_reducible apply RS.cmpF); exact rfl; exact rfl; exact rfl; exact rfl; (simp only [cmpN]; omega)) | ((with_reducible apply RS.fieldAddr); exact rfl; exact rfl; exact rfl) | ((with_reducible apply RS.load1); exact rfl; exact rfl; exact rfl; exact rfl; exact rfl; exact rfl) | ((with_reducible apply RS.nil); exact mixed; kernel_rfl) | ((with_reducible apply W.seq)) | ((with_reducible apply W.reg); kernel_rfl) | ((with_reducible apply W.block)) | ((with_reducible apply W.ret)) | ((with_reducible apply W.skip)) | ((with_reducible apply W.condT); kernel_rfl; exact rfl) | ((with_reducible apply W.condF); kernel_rfl; exact rfl) | ((with_reducible apply thenK_n)) | ((with_reducible apply thenK_r)) | ((with_reducible apply blockK_r))))
  · have hf : ¬ (stepS s).fin = 0 := by simpa using ‹(!(stepS s).fin == 0) = true›
    simp only [if_neg hf]
    rw [show ((stepS s).fin == 0) = false by simpa using hf]
    exact endsK_ret _ (.cons (.tmp rfl) .nil) (by (refine AtE.mk [0, 1, 2, 3, 4, 5, 6, 7] rfl rfl rfl ?_ ?_ rfl <;> (repeat' (first | exact trivial | exact rfl | exact fr_set List.length_set | apply And.intro)); done))
  all_goals
    have hf : (stepS s).fin = 0 := by simpa using ‹(!(stepS s).fin == 0) = false›
    simp only [if_pos hf]
    rw [show ((stopS (stepS s) 45).fin == 0) = false by unfold stopS; rw [if_pos hf]; rfl]
    exact endsK_ret _ (.cons (.tmp rfl) .nil) (by (refine AtE.mk [0, 1, 2, 3, 4, 5, 6, 7] rfl rfl rfl ?_ ?_ rfl <;> (repeat' (first | exact trivial | exact rfl | exact fr_set List.length_set | apply And.intro)); done))
end Go.Proofs.Ytjhloakacicdiaa
namespace Go.Proofs.Ytjhloakacicdiaa
open Go.AH
attribute [local irreducible] W RS
set_option maxHeartbeats 4000000 in
set_option maxRecDepth 100000 in
theorem insM_te (B : Hp) (pb fb fo : Nat) (hpb : pb < B.n) (hfb : fb < B.n) (s : RunS) (hst : 0 ≤ s.steps ∧ s.steps ≤ 1000000000) (regs at_ : List Int) (hrl : regs.length ≤ 1000000000) (x : InsS) (xb xo : Nat) (xcs : List Value) (xe : TypeId) (A : Option Addr) (c : Nat) (hX : B.m xb = some ⟨⟨xcs⟩, xe⟩) (hXn : xb < B.n) (hXl : xo + 12 ≤ xcs.length) (hXv : takeV xo 12 xcs = insC x A c) (hop : x.op = 28 ∨ x.op = 29) (r : Int × RunS) (hcl : (stepS s).fin = 0 → TE Try.prog 71 B 8 [0, 3, 4, 5, 6] (fun π => [.pointer (some ⟨π 0, 0, none⟩), .pointer (some ⟨π 5, 0, none⟩), .pointer (some ⟨xb, xo, none⟩)]) (frL pb fb fo (stepS s) regs at_) (.int .i64 r.1) (frL pb fb fo r.2 regs at_)) (hdst : x.dst < regs.length) :
    TE Try.prog 60 B 8 [0, 3, 4, 5, 6] (fun π => [.pointer (some ⟨π 0, 0, none⟩), .pointer (some ⟨π 5, 0, none⟩), .pointer (some ⟨xb, xo, none⟩)]) (frL pb fb fo s regs at_) (.bool (((if (stepS s).fin = 0 then r.2 else stepS s) : RunS).fin == 0)) (frL pb fb fo (if (stepS s).fin = 0 then r.2 else stepS s) (if (stepS s).fin = 0 then setReg regs x.dst r.1 else regs) at_) := by
  have htw : twoS x.op = false := by rcases hop with hop | hop <;> rw [hop] <;> rfl
  refine TE.intro (fn := Try.f60) (c := (Try.f60.body.getD .skip)) Try.func60 (by kernel_rfl) Try.ntmps60 (fun π => by kernel_rfl) (fun π => ⟨⟨_, rfl⟩, ⟨_, rfl⟩, ⟨_, rfl⟩, ⟨_, rfl⟩, ⟨_, rfl⟩, trivial⟩) (fr_par _ _ _ hpb hfb (by omega)) (by simp) fun π => ?_
  conv => arg 2; whnf
  repeat (first | ((with_reducible apply (RS.callO (vs := []) [0, 1, 2, 3, 4] 0)); exact rfl; exact rfl; exact step_to B pb hpb s hst; exact rfl; exact rfl; exact ⟨rfl, rfl, rfl, rfl, rfl, trivial⟩; exact step_fresh _ _ _) | ((with_reducible apply RS.move); exact rfl; exact rfl; exact rfl) | ((with_reducible apply RS.assign); exact rfl; exact rfl; exact rfl) | ((with_reducible apply RS.not); exact rfl; exact rfl; exact rfl) | ((with_reducible apply RS.nil); exact mixed; kernel_rfl) | ((with_reducible apply W.seq)) | ((with_reducible apply W.reg); kernel_rfl) | ((with_reducible apply thenK_n)))
  repeat' ((first | (((with_reducible apply RS.splitD); exact rfl; exact rfl) <;> intro _) | ((((with_reducible apply RS.splitG); exact rfl; exact rfl) <;> intro _) <;> (fail_if_success (exact absurd ‹true = false› (by decide))) <;> (fail_if_success (exact absurd ‹false = true› (by decide)))) | (((with_reducible apply W.condD); exact rfl) <;> intro _) | ((((with_reducible apply W.cond); exact rfl) <;> intro _) <;> (fail_if_success (exact absurd ‹true = false› (by decide))) <;> (fail_if_success (exact absurd ‹false = true› (by decide))))) <;> repeat (first | ((with_reducible apply RS.callR true []); exact rfl; exact rfl; exact rfl; exact fun H hH => (show TF _ _ _ H (.bool false) H by rw [← htw]; exact two_tf x.op H); exact Nm_free (by simp)) | ((with_reducible apply RS.indexAddrS); exact rfl; exact rfl; exact rfl; exact rfl; exact (Int.toNat_of_nonneg (by omega)).symm; omega) | ((with_reducible apply RS.store); exact rfl; exact rfl; exact rfl; exact rfl; exact rfl; (rw [show (intsC regs).length = regs.length from List.length_map ..]; omega); exact rfl; exact rfl; exact setL_ints _ _ _) | ((with_reducible apply RS.callR false [0]); exact rfl; exact rfl; exact rfl; exact fun H hH => ok_tf _ _ _ H (hH.l 0 rfl (by simp)) rfl; exact Nm_free (by simp)) | ((with_reducible apply RS.load1B); exact rfl; exact rfl; exact rfl; exact hX; exact hXn; (first | exact take_nth (j := 0) hXv rfl | exact take_nth (j := 1) hXv rfl | exact take_nth (j := 6) hXv rfl | exact take_nth (j := 9) hXv rfl | exact take_nth (j := 7) hXv rfl | exact take_nth (j := 10) hXv rfl)) | ((with_reducible apply RS.loadNB); exact rfl; exact rfl; exact rfl; exact hX; exact hXn; omega; (first | exact takeV_sub (j := 2) (n := 2) hXv (by omega) | exact takeV_sub (j := 4) (n := 2) hXv (by omega))) | ((with_reducible apply RS.callR false [5, 6]); exact rfl; exact rfl; exact rfl; exact fun H hH => arg_tf x.a regs _ _ _ H hrl (hH.l 5 rfl (by simp)) rfl (hH.l 6 rfl (by simp)); exact Nm_free (by simp)) | ((with_reducible apply RS.callR false [5, 6]); exact rfl; exact rfl; exact rfl; exact fun H hH => arg_tf x.b regs _ _ _ H hrl (hH.l 5 rfl (by simp)) rfl (hH.l 6 rfl (by simp)); exact Nm_free (by simp)) | ((with_reducible apply (RS.callE [0, 1, 2, 3, 4, 5, 6, 7] [0, 3, 4, 5, 6])); exact rfl; exact rfl; exact hcl (by simpa using ‹(!(stepS s).fin == 0) = false›); exact rfl; exact rfl; exact ⟨rfl, rfl, rfl, rfl, rfl, rfl, rfl, rfl, trivial⟩; intro π2 hπ2; rw [← hπ2 0 (by decide) (keepE rfl), ← hπ2 5 (by decide) (keepE rfl)]) | ((with_reducible apply RS.nilCheck); exact rfl; exact rfl; exact rfl) | ((with_reducible apply RS.move); exact rfl; exact rfl; exact rfl) | ((with_reducible apply RS.assign); exact rfl; exact rfl; exact rfl) | ((with_reducible apply RS.pickF); exact rfl; exact rfl; exact rfl; exact rfl) | ((with_reducible apply RS.cmpF); exact rfl; exact rfl; exact rfl; exact rfl; (simp only [cmpN]; omega)) | ((with_reducible apply RS.cmpC); exact rfl; exact rfl; exact rfl; exact rfl; exact rfl) | ((with_reducible apply RS.fieldAddr); exact rfl; exact rfl; exact rfl) | ((with_reducible apply RS.load1); exact rfl; exact rfl; exact rfl; exact rfl; exact rfl; exact rfl) | ((with_reducible apply RS.nil); exact mixed; kernel_rfl) | ((with_reducible apply W.seq)) | ((with_reducible apply W.reg); kernel_rfl) | ((with_reducible apply W.block)) | ((with_reducible apply W.ret)) | ((with_reducible apply W.skip)) | ((with_reducible apply W.condF); kernel_rfl; exact rfl) | ((with_reducible apply thenK_n)) | ((with_reducible apply thenK_r)) | ((with_reducible apply blockK_n))))
  · have hf : ¬ (stepS s).fin = 0 := by simpa using ‹(!(stepS s).fin == 0) = true›
    simp only [if_neg hf]
    rw [show ((stepS s).fin == 0) = false by simpa using hf]
    exact endsK_ret _ (.cons (.tmp rfl) .nil) (by (refine AtE.mk [0, 1, 2, 3, 4, 5, 6, 7] rfl rfl rfl ?_ ?_ rfl <;> (repeat' (first | exact trivial | exact rfl | exact fr_set List.length_set | apply And.intro)); done))
  all_goals
    have hf : (stepS s).fin = 0 := by simpa using ‹(!(stepS s).fin == 0) = false›
    simp only [if_pos hf]
    unfold setReg
    first
      | rw [if_pos ‹x.dst ≥ 0›]; exact endsK_ret _ (.cons (.tmp rfl) .nil) (by (refine AtE.mk [0, 1, 2, 3, 4, 5, 6, 7] rfl rfl rfl ?_ ?_ rfl <;> (repeat' (first | exact trivial | exact rfl | exact hπ2 _ (by decide) (keepE rfl) | exact fr_set List.length_set | apply And.intro)); done))
      | rw [if_neg ‹¬ x.dst ≥ 0›]; exact endsK_ret _ (.cons (.tmp rfl) .nil) (by (refine AtE.mk [0, 1, 2, 3, 4, 5, 6, 7] rfl rfl rfl ?_ ?_ rfl <;> (repeat' (first | exact trivial | exact rfl | exact hπ2 _ (by decide) (keepE rfl) | exact fr_set List.length_set | apply And.intro)); done))
end Go.Proofs.Ytjhloakacicdiaa
namespace Go.Proofs.Ytjhloakacicdiaa
open Go.AH
theorem fit_wrap (n : Int) : fitI (IntKind.i64.wrap n) := wrap64_in n
theorem fit_i64 (n : Int) : fitI (i64 n) := wrap64_in n
theorem fit_fdiv {a : Int} (h : fitI a) (k : Nat) : fitI (a.fdiv (2 ^ k)) := by
  have hp : (0 : Int) < 2 ^ k := Int.pow_pos (by omega)
  rw [Int.fdiv_eq_ediv_of_nonneg _ (Int.le_of_lt hp)]
  obtain ⟨h1, h2⟩ := h
  refine ⟨?_, ?_⟩
  · have := Int.le_ediv_of_mul_le (a := -9223372036854775808) (b := a) hp (by
      have : (1 : Int) ≤ 2 ^ k := hp
      have := Int.mul_le_mul_of_nonpos_left (a := (-9223372036854775808 : Int)) (by omega) this
      omega)
    exact this
  · by_cases ha : 0 ≤ a
    · have := Int.ediv_le_self (2 ^ k) ha
      omega
    · have := Int.ediv_neg_of_neg_of_pos (show a < 0 by omega) hp
      omega
theorem fit_tmod {a b : Int} (h : fitI a) : fitI (a.tmod b) := by
  obtain ⟨h1, h2⟩ := h
  have hn := Int.natAbs_tmod a b
  have hm := Nat.mod_le a.natAbs b.natAbs
  by_cases ha : 0 ≤ a
  · have := Int.tmod_nonneg b ha
    constructor <;> omega
  · have h3 := Int.tmod_nonneg b (show 0 ≤ -a by omega)
    rw [Int.neg_tmod] at h3
    constructor <;> omega
theorem fit_quot {op a b : Int} (ha : fitI a) : fitI (quotS op a b).1 := by
  unfold quotS
  split
  · split
    · exact ⟨by show (_ : Int) ≤ 0; omega, by show (0 : Int) ≤ _; omega⟩
    · exact fit_i64 _
  · split
    · exact ⟨by show (_ : Int) ≤ 0; omega, by show (0 : Int) ≤ _; omega⟩
    · split
      · split
        · exact ⟨by show (_ : Int) ≤ 0; omega, by show (0 : Int) ≤ _; omega⟩
        · exact fit_tmod ha
      · split <;> exact fit_i64 _
theorem fit_reckon {op a b : Int} (ha : fitI a) : fitI (reckonS op a b).1 := by
  unfold reckonS
  repeat' split
  all_goals first | exact fit_i64 _ | exact fit_fdiv ha _ | exact fit_quot ha | exact ⟨by show (_ : Int) ≤ 1; omega, by show (1 : Int) ≤ _; omega⟩ | exact ⟨by show (_ : Int) ≤ 0; omega, by show (0 : Int) ≤ _; omega⟩
theorem fit_widen {n size : Int} {sg : Bool} (hn : fitI n) : fitI (widenS n size sg) := by
  unfold widenS
  repeat' split
  · exact hn
  · exact fit_fdiv (fit_i64 _) _
  · exact fit_i64 _
theorem fit_arg {regs : List Int} {a : ArgS} (hr : ∀ r ∈ regs, fitI r) (ha : a.ok) : fitI (argS regs a) := by
  unfold argS
  split
  · exact ha.2
  · rw [List.getD_eq_getElem?_getD]
    cases h : regs[a.reg.toNat]? with
    | none => exact ⟨by show (_ : Int) ≤ 0; omega, by show (0 : Int) ≤ _; omega⟩
    | some v => exact hr v (List.mem_of_getElem? h)
theorem fit_load {d : List Int} {o : Nat} : ∀ n, fitI (loadV d o n) := by
  intro n
  cases n with
  | zero => exact ⟨by show (_ : Int) ≤ 0; omega, by show (0 : Int) ≤ _; omega⟩
  | succ n => exact fit_wrap _
theorem fit_loadS (s : RunS) (at_ : Int) (n : Nat) (sg : Bool) : fitI (loadS s at_ n sg).1 := by
  unfold loadS
  split
  · exact fit_widen (fit_load _)
  · split
    · exact fit_widen (fit_load _)
    · exact fit_widen ⟨by omega, by omega⟩
theorem setReg_len (regs : List Int) (d v : Int) : (setReg regs d v).length = regs.length := by unfold setReg; split <;> simp
theorem setReg_fit {regs : List Int} {d v : Int} (hr : ∀ r ∈ regs, fitI r) (hv : fitI v) : ∀ r ∈ setReg regs d v, fitI r := by
  unfold setReg
  split
  · intro r h
    rcases List.mem_or_eq_of_mem_set h with h | h
    · exact hr r h
    · rw [h]; exact hv
  · exact hr
def placeOf (p : ProgS) (i : Int) : Int := match p.globals[i.toNat]? with | some g => g.place | none => 0
def atOf (at_ : List Int) (i : Int) : Int := at_.reverse.getD i.toNat 0
def insS (p : ProgS) (cl : RunS → List Int → InsS → Int × RunS) (at_ : List Int) (s : RunS) (regs : List Int) (x : InsS) : RunS × List Int :=
  if (stepS s).fin = 0 then
    if x.op = 1 ∨ x.op = 2 then (stepS s, setReg regs x.dst (argS regs x.a))
    else if twoS x.op = true then (if (reckonS x.op (argS regs x.a) (argS regs x.b)).2 = true then stepS s else stopS (stepS s) 41, setReg regs x.dst (reckonS x.op (argS regs x.a) (argS regs x.b)).1)
    else if x.op = 22 then (stepS s, setReg regs x.dst (widenS (argS regs x.a) x.size x.signed))
    else if x.op = 23 then (stepS s, setReg regs x.dst (i64 (i64 (65536 + placeOf p x.ref) + x.off)))
    else if x.op = 24 then (stepS s, setReg regs x.dst (i64 (atOf at_ x.ref + x.off)))
    else if x.op = 25 then (stepS s, setReg regs x.dst (4194304 + 16 * x.ref))
    else if x.op = 26 then ((loadS (stepS s) (i64 (argS regs x.a + x.off)) x.size.toNat x.signed).2, setReg regs x.dst (loadS (stepS s) (i64 (argS regs x.a + x.off)) x.size.toNat x.signed).1)
    else if x.op = 27 then (storeS (stepS s) (i64 (argS regs x.a + x.off)) x.size.toNat (argS regs x.b), regs)
    else if x.op = 30 then (if (stepS s).out.length = 10000 then stopS (stepS s) 45 else { stepS s with out := argS regs x.a :: (stepS s).out }, regs)
    else ((cl (stepS s) regs x).2, setReg regs x.dst (cl (stepS s) regs x).1)
  else (stepS s, regs)
structure RunS.inv (s : RunS) : Prop where
  data : s.data.length ≤ 1000000
  stack : s.stack.length ≤ 1000000
  steps : 0 ≤ s.steps ∧ s.steps ≤ s.fuel
  fuel : s.fuel ≤ 1000000
  leaks : (s.leaks.length : Int) ≤ s.steps
  out : (s.out.length : Int) ≤ s.steps
  deep : 0 ≤ s.deep ∧ s.deep ≤ 101
theorem stepS_inv {s : RunS} (h : s.inv) : (stepS s).inv := by
  obtain ⟨h1, h2, h3, h4, h5, h6, h7⟩ := h
  unfold stepS
  split
  · split
    · exact ⟨h1, h2, h3, h4, h5, h6, h7⟩
    · exact ⟨h1, h2, ⟨by show 0 ≤ s.steps + 1; omega, by show s.steps + 1 ≤ s.fuel; omega⟩, h4, by show (s.leaks.length : Int) ≤ s.steps + 1; omega, by show (s.out.length : Int) ≤ s.steps + 1; omega, h7⟩
  · exact ⟨h1, h2, h3, h4, h5, h6, h7⟩
theorem stopS_inv {s : RunS} (h : s.inv) (e : Int) : (stopS s e).inv := by
  obtain ⟨h1, h2, h3, h4, h5, h6, h7⟩ := h
  unfold stopS
  split <;> exact ⟨h1, h2, h3, h4, h5, h6, h7⟩
theorem stepS_room {s : RunS} (h : s.inv) (hf : (stepS s).fin = 0) : ((stepS s).leaks.length : Int) + 1 ≤ (stepS s).steps ∧ ((stepS s).out.length : Int) + 1 ≤ (stepS s).steps := by
  have h5 := h.leaks
  have h6 := h.out
  unfold stepS at hf ⊢
  split at hf
  · split at hf
    · exact absurd (show (42 : Int) = 0 from hf) (by decide)
    · rw [if_pos ‹_›, if_neg ‹_›]
      exact ⟨by show (s.leaks.length : Int) + 1 ≤ s.steps + 1; omega, by show (s.out.length : Int) + 1 ≤ s.steps + 1; omega⟩
  · rename_i q; exact absurd hf q
theorem leakS_inv {s : RunS} (h : s.inv) (hr : (s.leaks.length : Int) + 1 ≤ s.steps) (q : LeakS) : (leakS s q).inv := by
  obtain ⟨h1, h2, h3, h4, h5, h6, h7⟩ := h
  exact ⟨h1, h2, h3, h4, by show ((s.leaks.length + 1 : Nat) : Int) ≤ s.steps; omega, h6, h7⟩
theorem loadS_inv {s : RunS} (h : s.inv) (hr : (s.leaks.length : Int) + 1 ≤ s.steps) (at_ : Int) (n : Nat) (sg : Bool) : (loadS s at_ n sg).2.inv := by
  unfold loadS
  split
  · exact leakS_inv h hr _
  · split
    · exact leakS_inv h hr _
    · exact stopS_inv (leakS_inv h hr _) _
theorem storeS_inv {s : RunS} (h : s.inv) (hr : (s.leaks.length : Int) + 1 ≤ s.steps) (at_ : Int) (n : Nat) (v : Int) : (storeS s at_ n v).inv := by
  unfold storeS
  have hl := leakS_inv h hr ⟨3, at_, 0⟩
  obtain ⟨h1, h2, h3, h4, h5, h6, h7⟩ := hl
  split
  · exact ⟨by show (storeV _ _ _ _).length ≤ _; rw [storeV_len]; exact h1, h2, h3, h4, h5, h6, h7⟩
  · split
    · exact ⟨h1, by show (storeV _ _ _ _).length ≤ _; rw [storeV_len]; exact h2, h3, h4, h5, h6, h7⟩
    · exact stopS_inv ⟨h1, h2, h3, h4, h5, h6, h7⟩ _
theorem insS_elim {Q : RunS × List Int → Prop} {p : ProgS} {cl : RunS → List Int → InsS → Int × RunS} {at_ : List Int} {s : RunS} {regs : List Int} {x : InsS} (h0 : ¬ (stepS s).fin = 0 → Q (stepS s, regs))
    (h1 : (stepS s).fin = 0 → x.op = 1 ∨ x.op = 2 → Q (stepS s, setReg regs x.dst (argS regs x.a)))
    (h2 : (stepS s).fin = 0 → twoS x.op = true → Q (if (reckonS x.op (argS regs x.a) (argS regs x.b)).2 = true then stepS s else stopS (stepS s) 41, setReg regs x.dst (reckonS x.op (argS regs x.a) (argS regs x.b)).1))
    (h22 : (stepS s).fin = 0 → x.op = 22 → Q (stepS s, setReg regs x.dst (widenS (argS regs x.a) x.size x.signed)))
    (h23 : (stepS s).fin = 0 → x.op = 23 → Q (stepS s, setReg regs x.dst (i64 (i64 (65536 + placeOf p x.ref) + x.off))))
    (h24 : (stepS s).fin = 0 → x.op = 24 → Q (stepS s, setReg regs x.dst (i64 (atOf at_ x.ref + x.off))))
    (h25 : (stepS s).fin = 0 → x.op = 25 → Q (stepS s, setReg regs x.dst (4194304 + 16 * x.ref)))
    (h26 : (stepS s).fin = 0 → x.op = 26 → Q ((loadS (stepS s) (i64 (argS regs x.a + x.off)) x.size.toNat x.signed).2, setReg regs x.dst (loadS (stepS s) (i64 (argS regs x.a + x.off)) x.size.toNat x.signed).1))
    (h27 : (stepS s).fin = 0 → x.op = 27 → Q (storeS (stepS s) (i64 (argS regs x.a + x.off)) x.size.toNat (argS regs x.b), regs))
    (h30 : (stepS s).fin = 0 → x.op = 30 → Q (if (stepS s).out.length = 10000 then stopS (stepS s) 45 else { stepS s with out := argS regs x.a :: (stepS s).out }, regs))
    (h28 : (stepS s).fin = 0 → ¬ (x.op = 1 ∨ x.op = 2) → twoS x.op = false → ¬ (22 ≤ x.op ∧ x.op ≤ 27) → ¬ x.op = 30 → Q ((cl (stepS s) regs x).2, setReg regs x.dst (cl (stepS s) regs x).1)) : Q (insS p cl at_ s regs x) := by
  unfold insS
  by_cases hf : (stepS s).fin = 0
  · rw [if_pos hf]
    by_cases o1 : x.op = 1 ∨ x.op = 2
    · rw [if_pos o1]; exact h1 hf o1
    rw [if_neg o1]
    by_cases o2 : twoS x.op = true
    · rw [if_pos o2]; exact h2 hf o2
    rw [if_neg o2]
    by_cases o22 : x.op = 22
    · rw [if_pos o22]; exact h22 hf o22
    rw [if_neg o22]
    by_cases o23 : x.op = 23
    · rw [if_pos o23]; exact h23 hf o23
    rw [if_neg o23]
    by_cases o24 : x.op = 24
    · rw [if_pos o24]; exact h24 hf o24
    rw [if_neg o24]
    by_cases o25 : x.op = 25
    · rw [if_pos o25]; exact h25 hf o25
    rw [if_neg o25]
    by_cases o26 : x.op = 26
    · rw [if_pos o26]; exact h26 hf o26
    rw [if_neg o26]
    by_cases o27 : x.op = 27
    · rw [if_pos o27]; exact h27 hf o27
    rw [if_neg o27]
    by_cases o30 : x.op = 30
    · rw [if_pos o30]; exact h30 hf o30
    rw [if_neg o30]
    exact h28 hf o1 (by simpa using o2) (by omega) o30
  · rw [if_neg hf]; exact h0 hf
theorem op_call {op : Int} (hop : 1 ≤ op ∧ op ≤ 30) (h1 : ¬ (op = 1 ∨ op = 2)) (h2 : twoS op = false) (h3 : ¬ (22 ≤ op ∧ op ≤ 27)) (h4 : ¬ op = 30) : op = 28 ∨ op = 29 := by
  have : ¬ (3 ≤ op ∧ op ≤ 21) := fun hh => by unfold twoS at h2; simp [hh.1, hh.2] at h2
  omega
theorem insS_inv {p : ProgS} {cl : RunS → List Int → InsS → Int × RunS} {at_ : List Int} {s : RunS} {regs : List Int} {x : InsS} (h : s.inv) (hc : (stepS s).fin = 0 → (x.op = 28 ∨ x.op = 29) → (cl (stepS s) regs x).2.inv) (hop : 1 ≤ x.op ∧ x.op ≤ 30) : (insS p cl at_ s regs x).1.inv := by
  have h1 := stepS_inv h
  refine insS_elim (Q := fun r => r.1.inv) (fun _ => h1) (fun _ _ => h1) (fun _ _ => ?_) (fun _ _ => h1) (fun _ _ => h1) (fun _ _ => h1) (fun _ _ => h1) (fun hf _ => loadS_inv h1 (stepS_room h hf).1 _ _ _) (fun hf _ => storeS_inv h1 (stepS_room h hf).1 _ _ _) (fun hf _ => ?_) (fun hf q1 q2 q3 q4 => hc hf (op_call hop q1 q2 q3 q4))
  · dsimp only
    split
    · exact h1
    · exact stopS_inv h1 _
  · dsimp only
    split
    · exact stopS_inv h1 _
    · have r2 := (stepS_room h hf).2
      obtain ⟨h1, h2, h3, h4, h5, h6, h7⟩ := h1
      exact ⟨h1, h2, h3, h4, h5, by show (((stepS s).out.length + 1 : Nat) : Int) ≤ _; dsimp only; omega, h7⟩
theorem insS_len {p : ProgS} {cl : RunS → List Int → InsS → Int × RunS} {at_ : List Int} {s : RunS} {regs : List Int} {x : InsS} : (insS p cl at_ s regs x).2.length = regs.length :=
  insS_elim (Q := fun r => r.2.length = regs.length) (fun _ => rfl) (fun _ _ => setReg_len _ _ _) (fun _ _ => setReg_len _ _ _) (fun _ _ => setReg_len _ _ _) (fun _ _ => setReg_len _ _ _) (fun _ _ => setReg_len _ _ _) (fun _ _ => setReg_len _ _ _) (fun _ _ => setReg_len _ _ _) (fun _ _ => rfl) (fun _ _ => rfl) (fun _ _ _ _ _ => setReg_len _ _ _)
theorem insS_fit {p : ProgS} {cl : RunS → List Int → InsS → Int × RunS} {at_ : List Int} {s : RunS} {regs : List Int} {x : InsS} (hr : ∀ r ∈ regs, fitI r) (hx : x.ok) (hop : 1 ≤ x.op ∧ x.op ≤ 30) (hc : (stepS s).fin = 0 → (x.op = 28 ∨ x.op = 29) → fitI (cl (stepS s) regs x).1) (href : x.op = 25 → 0 ≤ x.ref ∧ x.ref ≤ 1000000) : ∀ r ∈ (insS p cl at_ s regs x).2, fitI r :=
  insS_elim (Q := fun q => ∀ r ∈ q.2, fitI r) (fun _ => hr) (fun _ _ => setReg_fit hr (fit_arg hr hx.a)) (fun _ _ => setReg_fit hr (fit_reckon (fit_arg hr hx.a))) (fun _ _ => setReg_fit hr (fit_widen (fit_arg hr hx.a))) (fun _ _ => setReg_fit hr (fit_i64 _)) (fun _ _ => setReg_fit hr (fit_i64 _))
    (fun _ q => setReg_fit hr ⟨by have := href q; omega, by have := href q; omega⟩) (fun _ _ => setReg_fit hr (fit_loadS _ _ _ _)) (fun _ _ => hr) (fun _ _ => hr) (fun hf q1 q2 q3 q4 => setReg_fit hr (hc hf (op_call hop q1 q2 q3 q4)))
theorem rowC_ints : ∀ l : List Int, rowC intW l = l.reverse.map (.int .i64 ·) := by
  intro l
  induction l with
  | nil => rfl
  | cons a l ih => rw [rowC, ih]; simp [intW]
theorem size_nat {z : Int} (h : sizedS z = true) : ∃ n : Nat, z = n ∧ 1 ≤ n ∧ n ≤ 8 := by
  unfold sizedS at h
  simp only [Bool.or_eq_true, beq_iff_eq] at h
  rcases h with ((h | h) | h) | h
  · exact ⟨1, by omega, by omega, by omega⟩
  · exact ⟨2, by omega, by omega, by omega⟩
  · exact ⟨4, by omega, by omega, by omega⟩
  · exact ⟨8, by omega, by omega, by omega⟩
theorem inv_ok {s : RunS} (h : s.inv) (q : LeakS) : (leakS s q).ok := by
  obtain ⟨h1, h2, h3, h4, h5, h6, h7⟩ := h
  exact ⟨h1, h2, ⟨h3.1, by show s.steps ≤ _; omega⟩, by show s.leaks.length + 1 ≤ _; omega, by show s.out.length ≤ _; omega⟩
set_option maxHeartbeats 4000000 in
theorem ins_te (B : Hp) (hd : ∀ i b, B.m i = some b → i < B.n) (p : ProgS) (pb : Nat) (pe : TypeId) (P1 : Option Addr) (d1 : Nat) (P2 : Option Addr) (d2 : Nat) (hp : ProgAt B pb p pe P1 d1 P2 d2) (hnf : p.funcs.length ≤ 1000000) (fb fo : Nat) (hfb : fb < B.n) (f : FuncS) (hfr : f.regs ≤ 1000000000) (s : RunS) (hinv : s.inv) (regs at_ : List Int)
    (hrl : (regs.length : Int) = f.regs) (hrf : ∀ r ∈ regs, fitI r) (hal : at_.length = f.slots.length) (x : InsS) (hxo : x.ok) (hx : rightS p f x = true) (xb xo : Nat) (xcs : List Value) (xe : TypeId) (A : Option Addr) (c : Nat) (hX : B.m xb = some ⟨⟨xcs⟩, xe⟩) (hXl : xo + 12 ≤ xcs.length) (hXv : takeV xo 12 xcs = insC x A c)
    (cl : RunS → List Int → InsS → Int × RunS) (hcl : (stepS s).fin = 0 → (x.op = 28 ∨ x.op = 29) → TE Try.prog 71 B 8 [0, 3, 4, 5, 6] (fun π => [.pointer (some ⟨π 0, 0, none⟩), .pointer (some ⟨π 5, 0, none⟩), .pointer (some ⟨xb, xo, none⟩)]) (frL pb fb fo (stepS s) regs at_) (.int .i64 (cl (stepS s) regs x).1) (frL pb fb fo (cl (stepS s) regs x).2 regs at_)) :
    TE Try.prog 60 B 8 [0, 3, 4, 5, 6] (fun π => [.pointer (some ⟨π 0, 0, none⟩), .pointer (some ⟨π 5, 0, none⟩), .pointer (some ⟨xb, xo, none⟩)]) (frL pb fb fo s regs at_) (.bool ((insS p cl at_ s regs x).1.fin == 0)) (frL pb fb fo (insS p cl at_ s regs x).1 (insS p cl at_ s regs x).2 at_) := by
  have hpb := hd _ _ hp.m
  have hXn := hd _ _ hX
  have hst : 0 ≤ s.steps ∧ s.steps ≤ 1000000000 := ⟨hinv.steps.1, by have := hinv.steps.2; have := hinv.fuel; omega⟩
  have hsi := stepS_inv hinv
  unfold rightS at hx
  simp only [Bool.and_eq_true, decide_eq_true_eq] at hx
  obtain ⟨⟨⟨⟨⟨o1, o2⟩, oa⟩, od1⟩, od2⟩, ot⟩ := hx
  have hdst : x.dst < regs.length := by omega
  have hrl' : regs.length ≤ 1000000000 := by omega
  by_cases hop : x.op = 1 ∨ x.op = 2
  · have e : insS p cl at_ s regs x = (stepS s, if (stepS s).fin = 0 then setReg regs x.dst (argS regs x.a) else regs) := by
      unfold insS; split <;> simp [hop]
    rw [e]; exact insA_te B pb fb fo hpb hfb s hst regs at_ hrl' x xb xo xcs xe A c hX hXn hXl hXv hop hdst
  by_cases htw : twoS x.op = true
  · by_cases hq : (reckonS x.op (argS regs x.a) (argS regs x.b)).2 = true
    · have e : insS p cl at_ s regs x = (stepS s, if (stepS s).fin = 0 then setReg regs x.dst (reckonS x.op (argS regs x.a) (argS regs x.b)).1 else regs) := by
        unfold insS; split <;> simp [hop, htw, hq]
      rw [e]; exact insD_te B pb fb fo hpb hfb s hst regs at_ hrl' x xb xo xcs xe A c hX hXn hXl hXv htw (fit_arg hrf hxo.b).1 (fit_arg hrf hxo.b).2 hq hdst
    · have e : insS p cl at_ s regs x = (if (stepS s).fin = 0 then stopS (stepS s) 41 else stepS s, if (stepS s).fin = 0 then setReg regs x.dst (reckonS x.op (argS regs x.a) (argS regs x.b)).1 else regs) := by
        unfold insS; split <;> simp [hop, htw, hq]
      rw [e]; exact insE_te B pb fb fo hpb hfb s hst regs at_ hrl' x xb xo xcs xe A c hX hXn hXl hXv htw (fit_arg hrf hxo.b).1 (fit_arg hrf hxo.b).2 (by simpa using hq) hdst
  have h22 : x.op ≤ 2 ∨ 22 ≤ x.op := by unfold twoS at htw; simp at htw; omega
  by_cases hop22 : x.op = 22
  · have e : insS p cl at_ s regs x = (stepS s, if (stepS s).fin = 0 then setReg regs x.dst (widenS (argS regs x.a) x.size x.signed) else regs) := by
      unfold insS; split <;> simp [hop, htw, hop22]
    rw [e]; exact insB_te B pb fb fo hpb hfb s hst regs at_ hrl' x xb xo xcs xe A c hX hXn hXl hXv hop22 hdst
  by_cases hop23 : x.op = 23
  · unfold rightT at ot
    rw [if_neg (by omega), if_neg (by omega), if_pos hop23] at ot
    simp only [Bool.and_eq_true, decide_eq_true_eq] at ot
    obtain ⟨g, hg⟩ : ∃ g, p.globals[x.ref.toNat]? = some g := ⟨_, List.getElem?_eq_getElem (by omega)⟩
    obtain ⟨gb, go, gcs, ge, rfl, hG, hGl, GA, gc, hGv, _⟩ := hp.gs.get _ _ hg
    have e : insS p cl at_ s regs x = (stepS s, if (stepS s).fin = 0 then setReg regs x.dst (i64 (i64 (65536 + g.place) + x.off)) else regs) := by
      unfold insS placeOf; rw [hg]; split <;> simp [hop, htw, hop23]
    rw [e]; exact insG_te B pb fb fo hpb hfb s hst regs at_ hrl' x xb xo xcs xe A c hX hXn hXl hXv hop23 p pe P1 d1 gb go d2 hp.m g ot.1.2 ot.2 gcs ge GA gc hG (hd _ _ hG) hGl hGv hdst
  by_cases hop24 : x.op = 24
  · unfold rightT at ot
    rw [if_neg (by omega), if_neg (by omega), if_neg hop23, if_pos hop24] at ot
    simp only [Bool.and_eq_true, decide_eq_true_eq] at ot
    have e : insS p cl at_ s regs x = (stepS s, if (stepS s).fin = 0 then setReg regs x.dst (i64 (atOf at_ x.ref + x.off)) else regs) := by
      unfold insS; split <;> simp [hop, htw, hop24]
    rw [e]
    cases hat : at_ with
    | nil => rw [hat] at hal; simp only [List.length_nil] at hal; omega
    | cons a0 al =>
      rw [hat, List.length_cons] at hal
      refine insH_te B pb fb fo hpb hfb s hst regs (a0 :: al) hrl' x xb xo xcs xe A c hX hXn hXl hXv hop24 a0 al rfl ot.1.2 (by omega) (atOf (a0 :: al) x.ref) ?_ hdst
      rw [Nat.zero_add, Nat.mul_one, rowC_ints, List.getElem?_map]
      unfold atOf
      rw [List.getD_eq_getElem?_getD, List.getElem?_eq_getElem (by simp; omega)]; rfl
  by_cases hop25 : x.op = 25
  · unfold rightT at ot
    rw [if_neg (by omega), if_neg (by omega), if_neg hop23, if_neg hop24, if_pos hop25] at ot
    simp only [Bool.and_eq_true, decide_eq_true_eq] at ot
    have e : insS p cl at_ s regs x = (stepS s, if (stepS s).fin = 0 then setReg regs x.dst (4194304 + 16 * x.ref) else regs) := by
      unfold insS; split <;> simp [hop, htw, hop25]
    rw [e]; exact insC_te B pb fb fo hpb hfb s hst regs at_ hrl' x xb xo xcs xe A c hX hXn hXl hXv hop25 ⟨ot.1.2, by omega⟩ hdst
  by_cases hop26 : x.op = 26
  · unfold rightT at ot
    rw [if_pos (Or.inr hop26)] at ot
    simp only [Bool.and_eq_true, decide_eq_true_eq] at ot
    obtain ⟨n, hz, hn⟩ := size_nat ot.2
    have hzn : x.size.toNat = n := by omega
    have e : insS p cl at_ s regs x = (if (stepS s).fin = 0 then (loadS (stepS s) (i64 (argS regs x.a + x.off)) n x.signed).2 else stepS s, if (stepS s).fin = 0 then setReg regs x.dst (loadS (stepS s) (i64 (argS regs x.a + x.off)) n x.signed).1 else regs) := by
      unfold insS; rw [hzn]; split <;> simp [hop, htw, hop26]
    rw [e]; exact insI_te B pb fb fo hpb hfb s hst regs at_ hrl' x xb xo xcs xe A c hX hXn hXl hXv hop26 n hn hz (inv_ok hsi _) hdst
  by_cases hop27 : x.op = 27
  · unfold rightT at ot
    rw [if_neg (by omega), if_pos hop27] at ot
    simp only [Bool.and_eq_true, beq_iff_eq] at ot
    obtain ⟨n, hz, hn⟩ := size_nat ot.2
    have hzn : x.size.toNat = n := by omega
    have e : insS p cl at_ s regs x = (if (stepS s).fin = 0 then storeS (stepS s) (i64 (argS regs x.a + x.off)) n (argS regs x.b) else stepS s, regs) := by
      unfold insS; rw [hzn]; split <;> simp [hop, htw, hop27]
    rw [e]; exact insJ_te B pb fb fo hpb hfb s hst regs at_ hrl' x xb xo xcs xe A c hX hXn hXl hXv hop27 n hn hz (inv_ok hsi _) ot.1
  by_cases hop30 : x.op = 30
  · unfold rightT at ot
    rw [if_neg (by omega), if_neg (by omega), if_neg hop23, if_neg hop24, if_neg hop25, if_neg (by omega), if_neg (by omega), if_pos hop30] at ot
    simp only [beq_iff_eq] at ot
    by_cases ho : (stepS s).out.length = 10000
    · have e : insS p cl at_ s regs x = (if (stepS s).fin = 0 then stopS (stepS s) 45 else stepS s, regs) := by
        unfold insS; split <;> simp [hop, htw, hop30, ho]
      rw [e]; exact insL_te B pb fb fo hpb hfb s hst regs at_ hrl' x xb xo xcs xe A c hX hXn hXl hXv hop30 ho ot
    · have e : insS p cl at_ s regs x = (if (stepS s).fin = 0 then { stepS s with out := argS regs x.a :: (stepS s).out } else stepS s, regs) := by
        unfold insS; split <;> simp [hop, htw, hop30, ho]
      rw [e]; exact insK_te B pb fb fo hpb hfb s hst regs at_ hrl' x xb xo xcs xe A c hX hXn hXl hXv hop30 ho (by have := hsi.out; have := hsi.steps; have := hsi.fuel; omega) ot
  have h28 : x.op = 28 ∨ x.op = 29 := by omega
  have e : insS p cl at_ s regs x = (if (stepS s).fin = 0 then (cl (stepS s) regs x).2 else stepS s, if (stepS s).fin = 0 then setReg regs x.dst (cl (stepS s) regs x).1 else regs) := by
    unfold insS
    split <;> rfl
  rw [e]; exact insM_te B pb fb fo hpb hfb s hst regs at_ hrl' x xb xo xcs xe A c hX hXn hXl hXv h28 (cl (stepS s) regs x) (fun hf => hcl hf h28) hdst
end Go.Proofs.Ytjhloakacicdiaa
namespace Go.Proofs.Ytjhloakacicdiaa
open Go.AH
attribute [local irreducible] W RS
def accV (regs : List Int) (l : List ArgS) : Nat → List Int
  | 0 => []
  | i + 1 => argS regs (l.getD i ⟨0, 0⟩) :: accV regs l i
theorem accV_len (regs : List Int) (l : List ArgS) : ∀ i, (accV regs l i).length = i := by
  intro i
  induction i with
  | zero => rfl
  | succ i ih => rw [accV, List.length_cons, ih]
def placeAt (a : Int) : Int := i64 (a - 4194304)
def funcAt (a : Int) : Int := i64 ((placeAt a).tdiv 16)
def callsS (p : ProgS) (cl : RunS → Int → List Int → Int × RunS) (s : RunS) (regs : List Int) (x : InsS) : Int × RunS :=
  if x.op = 29 then
    if placeAt (argS regs x.a) < 0 ∨ ¬ (placeAt (argS regs x.a)).tmod 16 = 0 ∨ (p.funcs.length : Int) ≤ funcAt (argS regs x.a) then (0, stopS (leakS s ⟨4, argS regs x.a, 0⟩) 43)
    else if paramsAt p (funcAt (argS regs x.a)) = some (x.args.length : Int) then cl (leakS s ⟨4, argS regs x.a, 0⟩) (funcAt (argS regs x.a)) (accV regs x.args x.args.length)
    else (0, stopS (leakS s ⟨4, argS regs x.a, 0⟩) 43)
  else cl s x.ref (accV regs x.args x.args.length)
def caL (pb : Nat) (s : RunS) (args : List Int) (π : Nat → Nat) : List (Nat × Option Blk) := [(0, some ⟨⟨runC pb s (π 1) (π 2) (π 3) (π 4)⟩, 87⟩), (1, rowBk intW 2 s.out), (2, rowBk leakW 90 s.leaks), (3, some ⟨⟨bytesC s.data⟩, 5⟩), (4, some ⟨⟨bytesC s.stack⟩, 5⟩), (5, rowBk intW 2 args)]
def arL (pb fb fo : Nat) (s : RunS) (regs at_ acc : List Int) (π : Nat → Nat) : List (Nat × Option Blk) := [(0, some ⟨⟨runC pb s (π 1) (π 2) (π 3) (π 4)⟩, 87⟩), (1, rowBk intW 2 s.out), (2, rowBk leakW 90 s.leaks), (3, some ⟨⟨bytesC s.data⟩, 5⟩), (4, some ⟨⟨bytesC s.stack⟩, 5⟩), (5, some ⟨⟨[.pointer (some ⟨fb, fo, none⟩), .slice (some ⟨π 6, 0, none⟩) regs.length regs.length, rowVl 1 (π 7) at_]⟩, 100⟩), (6, some ⟨⟨intsC regs⟩, 2⟩), (7, rowBk intW 2 at_), (8, rowBk intW 2 acc)]
def CallTE (B : Hp) (pb : Nat) (cl : RunS → Int → List Int → Int × RunS) (s : RunS) (n : Int) (args : List Int) : Prop :=
  TE Try.prog 35 B 6 [0, 3, 4] (fun π => [.pointer (some ⟨π 0, 0, none⟩), .int .i64 n, rowVl 1 (π 5) args]) (caL pb s args) (.int .i64 (cl s n args).1) (caL pb (cl s n args).2 args)
theorem frame_eq {p : Option Addr} {a a' b b' n : Nat} {at_ : List Int} (h1 : a = a') (h2 : b = b') : (some ⟨⟨[.pointer p, .slice (some ⟨a, 0, none⟩) n n, rowVl 1 b at_]⟩, 100⟩ : Option Blk) = some ⟨⟨[.pointer p, .slice (some ⟨a', 0, none⟩) n n, rowVl 1 b' at_]⟩, 100⟩ := by rw [h1, h2]
set_option maxHeartbeats 4000000 in
set_option maxRecDepth 100000 in
theorem calls28_te (B : Hp) (pb fb fo : Nat) (hpb : pb < B.n) (hfb : fb < B.n) (hd : ∀ i b, B.m i = some b → i < B.n) (s : RunS) (regs at_ : List Int) (hrl : regs.length ≤ 1000000000) (x : InsS) (xb xo : Nat) (xcs : List Value) (xe : TypeId) (A : Option Addr) (c : Nat) (hX : B.m xb = some ⟨⟨xcs⟩, xe⟩) (hXn : xb < B.n) (hXl : xo + 12 ≤ xcs.length) (hXv : takeV xo 12 xcs = insC x A c) (hA : SlAt B A 2 x.args argR) (hal : x.args.length ≤ 1000000) (hop : x.op = 28)
    (cl : RunS → Int → List Int → Int × RunS) (hcl : CallTE B pb cl s x.ref (accV regs x.args x.args.length)) :
    TE Try.prog 71 B 8 [0, 3, 4, 5, 6] (fun π => [.pointer (some ⟨π 0, 0, none⟩), .pointer (some ⟨π 5, 0, none⟩), .pointer (some ⟨xb, xo, none⟩)]) (frL pb fb fo s regs at_) (.int .i64 (cl s x.ref (accV regs x.args x.args.length)).1) (frL pb fb fo (cl s x.ref (accV regs x.args x.args.length)).2 regs at_) := by
  refine TE.intro (fn := Try.f71) (c := (Try.f71.body.getD .skip)) Try.func71 (by kernel_rfl) Try.ntmps71 (fun π => by kernel_rfl) (fun π => ⟨⟨_, rfl⟩, ⟨_, rfl⟩, ⟨_, rfl⟩, ⟨_, rfl⟩, ⟨_, rfl⟩, trivial⟩) (fr_par _ _ _ hpb hfb (by omega)) (by simp) fun π => ?_
  refine W.ghost ?_
  conv => arg 2; whnf
  repeat (first | ((with_reducible apply RS.load1B); exact rfl; exact rfl; exact rfl; exact hX; exact hXn; (first | exact take_nth (j := 0) hXv rfl | exact take_nth (j := 9) hXv rfl | exact take_nth (j := 11) hXv rfl)) | ((with_reducible apply RS.nilCheck); exact rfl; exact rfl; exact rfl) | ((with_reducible apply RS.move); exact rfl; exact rfl; exact rfl) | ((with_reducible apply RS.assign); exact rfl; exact rfl; exact rfl) | ((with_reducible apply RS.cmpF); exact rfl; exact rfl; exact rfl; exact rfl; (simp only [cmpN]; omega)) | ((with_reducible apply RS.lenSl); exact rfl; exact rfl; exact rfl) | ((with_reducible apply RS.fieldAddr); exact rfl; exact rfl; exact rfl) | ((with_reducible apply RS.nil); exact mixed; kernel_rfl) | ((with_reducible apply W.seq)) | ((with_reducible apply W.reg); kernel_rfl) | ((with_reducible apply W.block)) | ((with_reducible apply W.skip)) | ((with_reducible apply W.condF); kernel_rfl; exact rfl) | ((with_reducible apply thenK_n)))
  refine W.loopP (X := Nat) (fun π i => [(0, .pointer (some ⟨π 0, 0, none⟩)), (1, .pointer (some ⟨π 5, 0, none⟩)), (7, .int .i64 x.ref), (89, .slice A x.args.length c), (90, .int .i64 x.args.length), (91, .int .i64 i), (10, rowVl 1 (π 8) (accV regs x.args i))]) (fun _ => B) (fun π i => arL pb fb fo s regs at_ (accV regs x.args i) π) (fun π' i => EqUp π' π 8 ∧ i ≤ x.args.length) (fun i => x.args.length - i) [0, 1, 2, 3, 4, 5, 6, 7, 8] 0 ⟨⟨rfl, rfl, rfl, rfl, rfl, rfl, rfl, rfl, trivial⟩, Nat.zero_le _⟩ (by (refine FitL.mk ?_ ?_ ?_ ?_ <;> (repeat' (first | exact trivial | exact rfl | (refine AllB.opt rfl rfl ?_) | apply And.intro)); done)) ?_
  rintro π' i ⟨hE, hI⟩
  dsimp only at hI ⊢
  by_cases hlt : i < x.args.length
  · have hg : x.args[i]? = some (x.args.getD i ⟨0, 0⟩) := by rw [List.getD_eq_getElem?_getD, List.getElem?_eq_getElem hlt]; rfl
    obtain ⟨gb, go, gcs, ge, rfl, hG, hGl, hGv⟩ := hA.get _ _ hg
    have hGn := hd _ _ hG
    repeat (first | ((with_reducible apply RS.buildSlice); exact rfl; exact rfl; exact rfl; exact rfl; exact rfl; exact rfl; exact rfl; exact rfl) | ((with_reducible apply RS.indexAddrS); exact rfl; exact rfl; exact rfl; exact rfl; exact rfl; omega) | ((with_reducible apply RS.loadNB); exact rfl; exact rfl; exact rfl; exact hG; exact hGn; exact hGl; exact hGv) | ((with_reducible apply RS.callR false [5, 6]); exact rfl; exact rfl; exact rfl; exact fun H hH => arg_tf (x.args.getD i ⟨0, 0⟩) regs _ _ _ H hrl (hH.l 5 rfl (by simp)) rfl (hH.l 6 rfl (by simp)); exact Nm_free (by simp)) | ((with_reducible apply (RS.appendRow (w := intW) (l0 := accV regs x.args i) (q := argS regs (x.args.getD i ⟨0, 0⟩)))); exact rfl; exact rfl; exact rfl; exact rfl; exact rfl; exact rfl; exact rfl; exact rfl; exact rfl; exact rfl; exact rfl; exact Nat.le_of_ble_eq_true rfl; exact fun _ => rfl; exact rfl; (rw [accV_len]; omega); (rw [accV_len]; omega)) | ((with_reducible apply RS.move); exact rfl; exact rfl; exact rfl) | ((with_reducible apply RS.assign); exact rfl; exact rfl; exact rfl) | ((with_reducible apply RS.cmpT); exact rfl; exact rfl; exact rfl; exact rfl; (simp only [cmpP]; omega)) | ((with_reducible apply RS.add1); exact rfl; exact rfl; exact rfl; exact rfl; omega) | ((with_reducible apply RS.loadN); exact rfl; exact rfl; exact rfl; exact rfl; exact rfl; exact Nat.le_of_ble_eq_true rfl) | ((with_reducible apply RS.store); exact rfl; exact rfl; exact rfl; exact rfl; exact rfl; exact Nat.le_of_ble_eq_true rfl; exact rfl; exact rfl; exact rfl) | ((with_reducible apply RS.alloc); exact rfl; exact rfl) | ((with_reducible apply RS.nil); exact mixed; kernel_rfl) | ((with_reducible apply W.seq)) | ((with_reducible apply W.reg); kernel_rfl) | ((with_reducible apply W.block)) | ((with_reducible apply W.skip)) | ((with_reducible apply W.condT); kernel_rfl; exact rfl) | ((with_reducible apply thenK_n)) | ((with_reducible apply blockK_n)))
    exact roundP_n (i + 1) [0, 1, 2, 3, 4, 5, 6, 7, 11] rfl rfl ⟨hE, by omega⟩ (by omega) (by (refine FitL.mk ?_ ?_ ?_ ?_ <;> (repeat' (first | exact trivial | exact rfl | (refine AllB.opt rfl rfl ?_) | apply And.intro)); done))
  · have hni : i = x.args.length := by omega
    subst hni
    repeat (first | ((with_reducible apply (RS.callE [0, 1, 2, 3, 4, 8] [0, 3, 4])); exact rfl; exact rfl; exact hcl; exact rfl; exact rfl; exact ⟨rfl, rfl, rfl, rfl, rfl, rfl, trivial⟩; intro π2 hπ2) | ((with_reducible apply RS.move); exact rfl; exact rfl; exact rfl) | ((with_reducible apply RS.assign); exact rfl; exact rfl; exact rfl) | ((with_reducible apply RS.cmpF); exact rfl; exact rfl; exact rfl; exact rfl; (simp only [cmpN]; omega)) | ((with_reducible apply RS.nil); exact mixed; kernel_rfl) | ((with_reducible apply W.seq)) | ((with_reducible apply W.reg); kernel_rfl) | ((with_reducible apply W.exit)) | ((with_reducible apply W.ret)) | ((with_reducible apply W.condF); kernel_rfl; exact rfl) | ((with_reducible apply thenK_n)) | ((with_reducible apply thenK_e)) | ((with_reducible apply blockK_hit); exact rfl) | ((with_reducible apply roundP_e)))
    have q : ∀ j, j < 8 → (∀ i, nthL [0, 1, 2, 3, 4, 8] i = some j → i ∈ [0, 3, 4]) → π2 j = π j := fun j hj hk => (hπ2 j (Nat.lt_succ_of_lt hj) hk).trans (hE.get hj)
    exact endsK_ret _ (.cons (.tmp rfl) .nil) (by (refine AtE.mk [0, 1, 2, 3, 4, 5, 6, 7] rfl rfl rfl ?_ ?_ rfl <;> (repeat' (first | exact trivial | exact rfl | exact frame_eq (hπ2 6 (by decide) (keepE rfl)) (hπ2 7 (by decide) (keepE rfl)) | exact q _ (by omega) (keepE rfl) | apply And.intro)); done))
end Go.Proofs.Ytjhloakacicdiaa
